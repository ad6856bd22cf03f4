/- tree: Build. -/
import Derived.Test.YtbpfmlckddhgbaaGreatDoorQf
namespace Go.Proofs.YtbpfmlckddhgbaaGreatDoor
set_option linter.unusedVariables false
set_option linter.unusedSimpArgs false
open Go Go.RowKit Go.Maps Go.WideMaps Go.Proofs.YtbpfmlckddhgbaaGreatDoorW.PrintWords Go.Proofs.YtbpfmlckddhgbaaGreatDoorW.PrintLast
theorem results_cell_tmp2 {P : Program} {fn : Func} {p q r : Tmp} {ty : TypeId} (h : fn.results = #[.cell p ty, .tmp q, .tmp r]) (tmps : Array Value) (w : World) (g : Nat) (t : TypeId) (cs : List Value) (d : TypeDesc)
    (hp : tmps.getD p undef = .pointer (some ⟨g, 0, none⟩)) (hg : At w g t cs) (hu : P.underlying ty = some d) (hd : d.isRow = true) (hi : (P.info? ty).map (·.size) = some cs.length) :
    (results fn tmps).run P w = .ok (.tuple #[.agg cs.toArray, tmps.getD q undef, tmps.getD r undef]) w := by
  have hp' : tmps[p]?.getD undef = .pointer (some ⟨g, 0, none⟩) := by simpa using hp
  have hg' : w.heap[g]? = some (.cells cs.toArray t (0, 0)) := hg
  simp [results, h, hp', asAddr, run_loadVar_row (P := P) w g t ty cs.toArray (0, 0) d hg' hu (by cases d <;> simp_all) (by simpa using hi)]
theorem size125 : (Tryz.prog.info? 125).map (·.size) = some 1 := by kernel_rfl
theorem size126 : (Tryz.prog.info? 126).map (·.size) = some 1 := by kernel_rfl
set_option maxRecDepth 8000 in
set_option maxHeartbeats 1000000 in
theorem build_calls (w : World) (wd : Nat) (hi : Nat) (A : Option Addr) (c : Nat) (its : List Itm) (f : Nat) (es : List Ent) (j : Nat) (bl' : List (List UInt8)) (hw1 : 1 ≤ wd) (hw2 : wd ≤ 32) (hI : RdI w hi A its) (hhi : hi ≤ w.heap.size) (h0 : 0 < hi) (hG : Glob w) (hdl : ∀ x ∈ its, x.data.length ≤ 1099511627776)
    (hT : isTreeM its = true) (hM : rowM wd its f ⟨#[]⟩ 0 [] [] = some (es, j, bl')) (hok : okRow es = true) (hbl : bl'.length < 1048576) :
    Calls Tryz.prog 19 #[.int .i64 (wd : Int), .slice A its.length c] w fun e w' => ∃ v, e = .returned (.tuple #[digV (digL wd (encL es)), v, .int .i64 0]) ∧ Blobs w' (fun b => w.heap.size ≤ b) v (addB bl' (encL es)) ∧ Below w.heap.size w w' := by
  have hlen : its.length < 65536 := by unfold isTreeM at hT; simp at hT; exact hT.1
  have HI := Aside0.mk hI
  have HH := Aside0.mk (And.intro hhi h0)
  have HG := Aside0.mk hG
  have DL := Aside0.mk hdl
  have TT := Aside0.mk hT
  have HM := Aside0.mk hM
  have OKR := Aside0.mk (And.intro hok hbl)
  have t1 : decide ((wd : Int) < 1) = false := decide_eq_false (by omega)
  have t2 : decide ((wd : Int) > 32) = false := decide_eq_false (by omega)
  have t2b : decide (32 < (wd : Int)) = false := decide_eq_false (by omega)
  have hmm := @run_makeMap Tryz.prog
  have hmf : ∀ (fn : Fn) (first cap : Array Value) (w : World), (Instr.makeFunc fn first cap).run Tryz.prog w = .ok (.func fn first cap) w := fun _ _ _ _ => rfl
  clear hI hhi h0 hG hdl hT hM hok hbl
  go_enter Tryz.func19, Tryz.ntmps19
  go_wp2_with (first
    | (go_at_call 74
       have hws : WSt W12 (fun _ => False) hi W12.heap.size ⟨W10.heap.size, w.heap.size + 1, W10.heap.size + 1, w5.heap.size + 3, w5.heap.size + 2, w5.heap.size, w5.heap.size + 1, w.heap.size⟩ wd 0 its A c [] (.slice none 0 0) := by
         have h1 := S12.out
         have h2 := S10.out
         have h3 := S5.out
         have h4 := HH.out
         refine ⟨NA.out, N3.out, NW.out, N10.out, ⟨N9.out, N8.out, N2.out, ?_, Blobs.nil _ _, fun b hb => hb.elim, by simp only; omega, by simp only; omega⟩, HI.out.only (Only.of_below (S := fun _ => False) B.out) HH.out.1 (fun _ h => h.elim), HG.out.below B.out, by simp only; omega, by simp only; omega, by simp only; omega⟩
         have e : seenM [] = fun _ => none := by funext s; simp [seenM]
         rw [e]; exact NM.out
       have hcall := walk_ok wd its hw1 hw2 (by omega) f W12 (fun _ => False) hi W12.heap.size ⟨W10.heap.size, w.heap.size + 1, W10.heap.size + 1, w5.heap.size + 3, w5.heap.size + 2, w5.heap.size, w5.heap.size + 1, w.heap.size⟩ ⟨#[]⟩ 0 A c [] (.slice none 0 0) es j bl' hws HM.out OKR.out.1 OKR.out.2
       refine hcall.mono ?_
       rintro e w13 ⟨rfl, v, hW, hO, _⟩
       have h1 := S12.out
       have h2 := S10.out
       have h3 := S5.out
       have hn : ∀ b, WrW ⟨W10.heap.size, w.heap.size + 1, W10.heap.size + 1, w5.heap.size + 3, w5.heap.size + 2, w5.heap.size, w5.heap.size + 1, w.heap.size⟩ (.slice none 0 0) b → w5.heap.size ≤ b := fun b hb => by
         rcases hb with hb | hb | hb | hb
         · simp only at hb; omega
         · simp only at hb; omega
         · simp only at hb; omega
         · simp [Value.ownBlock] at hb
       have N4 := Aside0.mk (hO.at_ N4.out.lt (fun hb => by have := hn _ hb; have := L4.out; omega) N4.out)
       have N8 := Aside0.mk (show At w13 w5.heap.size 28 [v] from hW.st.cell)
       have BL := Aside0.mk (show Blobs w13 (fun b => w.heap.size ≤ b ∧ b ≠ b4) v (addB bl' (encL es)) from hW.st.blobs.mono (fun b _ hb => by rcases hb with hb | hb; exact hb.elim; have := L4.out; omega))
       have VF := Aside0.mk (show ∀ k, v.ownBlock = some k → k < w13.heap.size from fun k hk => hW.st.blobs.lt hk)
       have L13 := Aside0.mk (show w5.heap.size < w13.heap.size ∧ b4 < w5.heap.size from ⟨hW.st.cell.lt, by have := L4.out; omega⟩)
       have B := Aside0.mk (B.out.trans (hO.to_below B.out.size (fun b hb => by have := hn _ hb; omega)))
       obtain ⟨dd, hdd⟩ : ∃ dd, dd = digL wd (encL es) := ⟨_, rfl⟩
       rw [← hdd]
       obtain ⟨dgv, hdgv⟩ : ∃ dgv, dgv = digV dd := ⟨_, rfl⟩
       rw [← hdgv]
       have DD := Aside0.mk (And.intro hdd hdgv)
       have DDL := Aside0.mk (show dd.length = 32 by rw [hdd]; exact digL_len wd _ hw2)
       have M13 := Aside0.mk True.intro
       clear hws hcall hW hO h1 h2 h3 hn hdd hdgv kw)
    | (have G := M13.out
       refine arm_alloc rfl 27 rfl _ _ info27 ?_; intro W14 b13 hb hW
       have hB : Below w13.heap.size w13 W14 := by subst hW; exact (Below.refl _ _).alloc (Nat.le_refl _) _
       have hN : At W14 b13 27 (List.replicate 32 (bv 0)) := by subst hW hb; exact At.new _ _ _
       have L14 := Aside0.mk (show b13 = w13.heap.size from hb)
       have N4 := Aside0.mk (N4.out.below hB N4.out.lt)
       have N8 := Aside0.mk (N8.out.below hB N8.out.lt)
       have BL := Aside0.mk ((BL.out.mono (D' := fun b => (w.heap.size ≤ b ∧ b ≠ b4) ∧ b ≠ b13) (fun b hb' hd => ⟨hd, by omega⟩)).below hB)
       have N13 := Aside0.mk hN
       have B := Aside0.mk (B.out.trans (hB.mono B.out.size))
       clear hN hb hW hB)
    | (refine arm_store_row rfl 27 _ _ rfl b13 27 _ (dd.map bv) rfl DD.out.2 N13.out (by rw [List.length_map, DDL.out]; rfl) (by rw [List.length_map, DDL.out]; exact size27) (one_bv _) ?_
       intro W15 hW
       have hO : Only (· = b13) W14.heap.size W14 W15 := by subst hW; exact Only.setRow (S := (· = b13)) (Only.refl _ _ _) (.inl rfl) _
       have N13 := Aside0.mk (show At W15 b13 27 (dd.map bv) by subst hW; exact N13.out.setRow _)
       have N4 := Aside0.mk (hO.at_ N4.out.lt (by have h1 := L13.out; have h2 := L14.out; omega) N4.out)
       have N8 := Aside0.mk (hO.at_ N8.out.lt (by have h1 := L13.out; have h2 := L14.out; omega) N8.out)
       have BL := Aside0.mk (BL.out.only hO (fun b hb hd => hd.2 hb))
       have B := Aside0.mk (B.out.trans (hO.to_below B.out.size (fun b hb => by have e : b = b13 := hb; have h1 := L13.out; have h2 := L14.out; have h3 := S5.out; omega)))
       clear hW hO)
    | (refine arm_alloc rfl 27 rfl _ _ info27 ?_; intro W4 b4 hb hW
       have hB : Below w.heap.size w W4 := by subst hW; exact (((Below.refl _ _).alloc (Nat.le_refl _) _).alloc (by rw [World.size_alloc]; omega) _).alloc (by rw [World.size_alloc, World.size_alloc]; omega) _
       have hN : At W4 b4 27 (List.replicate 32 (bv 0)) := by subst hW hb; exact At.new _ _ _
       have h2 : At W4 w.heap.size 3 [.int .i64 (wd : Int)] := by subst hW; exact ((At.new _ _ _).alloc _).alloc _
       have h3 : At W4 (w.heap.size + 1) 22 [.slice A its.length c] := by
         subst hW
         have e := At.new (w.alloc (.cells #[.int .i64 (wd : Int)] 3)) 22 #[.slice A its.length c]
         rw [World.size_alloc] at e; exact e.alloc _
       have L4 := Aside0.mk (show b4 = w.heap.size + 2 by rw [hb, World.size_alloc, World.size_alloc])
       have N4 := Aside0.mk hN
       have N2 := Aside0.mk h2
       have N3 := Aside0.mk h3
       have B := Aside0.mk hB
       have k2 : W4.cell? ⟨w.heap.size, 0, none⟩ = some (.int .i64 (wd : Int)) := by rw [h2.cell]; rfl
       have k3 : W4.cell? ⟨w.heap.size + 1, 0, none⟩ = some (.slice A its.length c) := by rw [h3.cell]; rfl
       clear hN hb hW hB h2 h3)
    | (go_at_call 33
       have hcall := check_calls W4 hi A c its (HI.out.only (Only.of_below (S := fun _ => False) B.out) HH.out.1 (fun _ h => h.elim)) (Nat.le_trans HH.out.1 B.out.size) (HG.out.below B.out) DL.out (by omega)
       rw [TT.out, if_pos rfl] at hcall
       refine hcall.mono ?_
       rintro e w5 ⟨rfl, hB⟩
       have N4 := Aside0.mk (N4.out.below hB N4.out.lt)
       have N2 := Aside0.mk (N2.out.below hB N2.out.lt)
       have N3 := Aside0.mk (N3.out.below hB N3.out.lt)
       have B := Aside0.mk (B.out.trans (hB.mono B.out.size))
       clear k2 k3 hcall hB)
    | (have G := M10.out
       refine arm_store1 rfl 126 _ _ rfl ⟨W10.heap.size + 1, 0, none⟩ rfl (.func (.func 74) #[] #[.pointer (some ⟨W10.heap.size, 0, none⟩), .pointer (some ⟨w.heap.size + 1, 0, none⟩), .pointer (some ⟨W10.heap.size + 1, 0, none⟩), .pointer (some ⟨w5.heap.size + 3, 0, none⟩)]) rfl .nilFunc (by
         have e := At.new (W10.alloc (.cells #[.int .i64 0] 3)) 126 #[.nilFunc]
         rw [World.size_alloc] at e; rw [e.cell]; rfl) (by
         have e := At.new (W10.alloc (.cells #[.int .i64 0] 3)) 126 #[.nilFunc]
         rw [World.size_alloc] at e; exact e.frozen 0) size126 rfl rfl ?_
       intro W12 hW
       have hB : Below W10.heap.size W10 W12 := by
         subst hW
         have hb : Below W10.heap.size W10 ((W10.alloc (.cells #[.int .i64 0] 3)).alloc (.cells #[.nilFunc] 126)) := ((Below.refl _ _).alloc (Nat.le_refl _) _).alloc (by rw [World.size_alloc]; omega) _
         exact hb.trans ((Only.setCell (S := (· = W10.heap.size + 1)) (B := W10.heap.size) (a := ⟨W10.heap.size + 1, 0, none⟩) (Only.refl _ _ _) (.inl rfl) _).to_below (Nat.le_refl _) (fun b hb => by have e : b = W10.heap.size + 1 := hb; omega))
       have ha : At W12 W10.heap.size 3 [.int .i64 ((0 : Nat) : Int)] := by subst hW; exact ((At.new _ _ _).alloc _).setCell_other (a := ⟨W10.heap.size + 1, 0, none⟩) (by show W10.heap.size ≠ W10.heap.size + 1; omega) _
       have hw : At W12 (W10.heap.size + 1) 126 [.func (.func 74) #[] #[.pointer (some ⟨W10.heap.size, 0, none⟩), .pointer (some ⟨w.heap.size + 1, 0, none⟩), .pointer (some ⟨W10.heap.size + 1, 0, none⟩), .pointer (some ⟨w5.heap.size + 3, 0, none⟩)]] := by
         subst hW
         have e := At.new (W10.alloc (.cells #[.int .i64 0] 3)) 126 #[.nilFunc]
         rw [World.size_alloc] at e
         exact e.setCell 0 _
       have N4 := Aside0.mk (N4.out.below hB N4.out.lt)
       have N2 := Aside0.mk (N2.out.below hB N2.out.lt)
       have N3 := Aside0.mk (N3.out.below hB N3.out.lt)
       have N8 := Aside0.mk (N8.out.below hB N8.out.lt)
       have N9 := Aside0.mk (N9.out.below hB N9.out.lt)
       have NM := Aside0.mk (NM.out.below hB NM.out.lt)
       have N10 := Aside0.mk (N10.out.below hB N10.out.lt)
       have S12 := Aside0.mk (show W12.heap.size = W10.heap.size + 2 by subst hW; simp [World.setCell, World.size_alloc])
       have NA := Aside0.mk ha
       have NW := Aside0.mk hw
       have B := Aside0.mk (B.out.trans (hB.mono B.out.size))
       have kw : W12.cell? ⟨W10.heap.size + 1, 0, none⟩ = some (.func (.func 74) #[] #[.pointer (some ⟨W10.heap.size, 0, none⟩), .pointer (some ⟨w.heap.size + 1, 0, none⟩), .pointer (some ⟨W10.heap.size + 1, 0, none⟩), .pointer (some ⟨w5.heap.size + 3, 0, none⟩)]) := by rw [hw.cell]; rfl
       clear hW hB ha hw)
    | (refine arm_store1 rfl 125 _ _ rfl ⟨w5.heap.size + 3, 0, none⟩ rfl (.func (.func 70) #[] #[.pointer (some ⟨w5.heap.size + 2, 0, none⟩), .pointer (some ⟨w5.heap.size, 0, none⟩), .pointer (some ⟨w.heap.size, 0, none⟩)]) rfl .nilFunc (by
         have e := At.new (((w5.alloc (.cells #[.slice none 0 0] 28)).alloc (.map #[] 0)).alloc (.cells #[.map (some (w5.heap.size + 1))] 121)) 125 #[.nilFunc]
         rw [World.size_alloc, World.size_alloc, World.size_alloc] at e; rw [e.cell]; rfl) (by
         have e := At.new (((w5.alloc (.cells #[.slice none 0 0] 28)).alloc (.map #[] 0)).alloc (.cells #[.map (some (w5.heap.size + 1))] 121)) 125 #[.nilFunc]
         rw [World.size_alloc, World.size_alloc, World.size_alloc] at e; exact e.frozen 0) size125 rfl rfl ?_
       intro W10 hW
       have hX : Below w5.heap.size w5 ((((w5.alloc (.cells #[.slice none 0 0] 28)).alloc (.map #[] 0)).alloc (.cells #[.map (some (w5.heap.size + 1))] 121)).alloc (.cells #[.nilFunc] 125)) := ((((Below.refl _ _).alloc (Nat.le_refl _) _).alloc (by rw [World.size_alloc]; omega) _).alloc (by rw [World.size_alloc, World.size_alloc]; omega) _).alloc (by rw [World.size_alloc, World.size_alloc, World.size_alloc]; omega) _
       have hS : Only (· = w5.heap.size + 3) ((((w5.alloc (.cells #[.slice none 0 0] 28)).alloc (.map #[] 0)).alloc (.cells #[.map (some (w5.heap.size + 1))] 121)).alloc (.cells #[.nilFunc] 125)).heap.size ((((w5.alloc (.cells #[.slice none 0 0] 28)).alloc (.map #[] 0)).alloc (.cells #[.map (some (w5.heap.size + 1))] 121)).alloc (.cells #[.nilFunc] 125)) W10 := by subst hW; exact Only.setCell (S := (· = w5.heap.size + 3)) (a := ⟨w5.heap.size + 3, 0, none⟩) (Only.refl _ _ _) (.inl rfl) _
       have hB : Below w5.heap.size w5 W10 := hX.trans (hS.to_below hX.size (fun b hb => by have e : b = w5.heap.size + 3 := hb; omega))
       have h8 : At W10 w5.heap.size 28 [.slice none 0 0] := by
         have e := (((At.new w5 28 #[.slice none 0 0]).alloc (.map #[] 0)).alloc (.cells #[.map (some (w5.heap.size + 1))] 121)).alloc (.cells #[.nilFunc] 125)
         exact hS.at_ e.lt (by omega) e
       have hm : OMap W10 9 (w5.heap.size + 1) (fun _ => none) 0 := by
         have e := OMap.new (w5.alloc (.cells #[.slice none 0 0] 28)) 9
         rw [World.size_alloc] at e
         have e2 : OMap ((((w5.alloc (.cells #[.slice none 0 0] 28)).alloc (.map #[] 0)).alloc (.cells #[.map (some (w5.heap.size + 1))] 121)).alloc (.cells #[.nilFunc] 125)) 9 (w5.heap.size + 1) (fun _ => none) 0 :=
           e.below (B := w5.heap.size + 2) (((Below.refl _ _).alloc (by rw [World.size_alloc, World.size_alloc]; omega) _).alloc (by rw [World.size_alloc, World.size_alloc, World.size_alloc]; omega) _) (by omega)
         exact e2.only hS e2.lt (by omega)
       have h9 : At W10 (w5.heap.size + 2) 121 [.map (some (w5.heap.size + 1))] := by
         have e := At.new ((w5.alloc (.cells #[.slice none 0 0] 28)).alloc (.map #[] 0)) 121 #[.map (some (w5.heap.size + 1))]
         rw [World.size_alloc, World.size_alloc] at e
         have e2 := e.alloc (.cells #[.nilFunc] 125)
         exact hS.at_ e2.lt (by omega) e2
       have h10 : At W10 (w5.heap.size + 3) 125 [.func (.func 70) #[] #[.pointer (some ⟨w5.heap.size + 2, 0, none⟩), .pointer (some ⟨w5.heap.size, 0, none⟩), .pointer (some ⟨w.heap.size, 0, none⟩)]] := by
         subst hW
         have e := At.new (((w5.alloc (.cells #[.slice none 0 0] 28)).alloc (.map #[] 0)).alloc (.cells #[.map (some (w5.heap.size + 1))] 121)) 125 #[.nilFunc]
         rw [World.size_alloc, World.size_alloc, World.size_alloc] at e
         exact e.setCell 0 _
       have S5 := Aside0.mk (show w.heap.size + 3 ≤ w5.heap.size by have := N4.out.lt; have := L4.out; omega)
       have N4 := Aside0.mk (N4.out.below hB N4.out.lt)
       have N2 := Aside0.mk (N2.out.below hB N2.out.lt)
       have N3 := Aside0.mk (N3.out.below hB N3.out.lt)
       have N8 := Aside0.mk h8
       have NM := Aside0.mk hm
       have N9 := Aside0.mk h9
       have N10 := Aside0.mk h10
       have S10 := Aside0.mk (show W10.heap.size = w5.heap.size + 4 by subst hW; simp [World.setCell, World.size_alloc])
       have B := Aside0.mk (B.out.trans (hB.mono B.out.size))
       have M10 := Aside0.mk True.intro
       clear hW hX hS hB h8 hm h9 h10)
    | fail)
  have hall : ∀ w', Only (· = b4) W15.heap.size W15 w' → (Instr.loadAt 27 (.pointer (some ⟨b13, 0, none⟩))).run Tryz.prog w' = .ok dgv w' ∧ (Instr.loadAt 28 (.pointer (some ⟨w5.heap.size, 0, none⟩))).run Tryz.prog w' = .ok v w' := by
    intro w' hO
    have h1 := L13.out
    have h2 := L14.out
    have e13 := hO.at_ N13.out.lt (by omega) N13.out
    have e8 := hO.at_ N8.out.lt (by omega) N8.out
    refine ⟨?_, run_load1 28 ⟨w5.heap.size, 0, none⟩ v (by rw [e8.cell]; rfl) (.slice 35) tu28 rfl⟩
    rw [DD.out.2]
    exact run_loadAt_mid w' b13 0 27 (dd.map bv) (.array 32 5) e13.rangeAll tu27 rfl (by rw [List.length_map, DDL.out]; exact size27)
  have HALL := Aside0.mk hall
  clear hall
  refine takes_region (S := fun w' => Only (· = b4) W15.heap.size W15 w') (ds := []) [(0, false), (1, false)] 3 (by kernel_rfl) rfl (by kernel_rfl) (fun _ _ dd _ _ h => by cases dd <;> exact h) (Only.refl _ _ _).drew
    #[true, true, false, false, false] (by kernel_rfl) ?_
  refine tk (N := some 32) (v := ?vv1) (a' := ?aa1) rfl rfl rfl ?hr1 ?ha1 ?nx1
  case hr1 => (intro w' hS; have hF := (HALL.out w' (hS.resolve_left (by decide))).1; refine (run_load_op hF rfl rfl).trans ?_; with_reducible rfl)
  case ha1 => (simp only [Act.put, List.setIfInBounds_toArray, List.set_cons_zero, List.set_cons_succ]; rfl)
  refine tk (N := some 33) (v := ?vv2) (a' := ?aa2) rfl rfl rfl ?hr2 ?ha2 ?nx2
  case hr2 => (intro w' hS; have hF := (HALL.out w' (hS.resolve_left (by decide))).2; refine (run_load_op hF rfl rfl).trans ?_; with_reducible rfl)
  case ha2 => (simp only [Act.put, List.setIfInBounds_toArray, List.set_cons_zero, List.set_cons_succ]; rfl)
  refine takes_done ?_
  refine one_ (i := 2) (N := none) #[true, true, true, false, false] rfl rfl (by kernel_rfl) (by decide) (fun K hK => ?_)
  rw [if_pos (by rfl)]
  refine wpo_store_row none rfl 27 (.tmp 4) (.tmp 32) rfl b4 27 _ (dd.map bv) rfl DD.out.2 N4.out.drew (by rw [List.length_map, DDL.out]; rfl) (by rw [List.length_map, DDL.out]; exact size27) (one_bv _) ?_
  intro W16 hW
  have hO : Only (· = b4) W15.heap.size W15 W16 := by subst hW; exact Only.setRow (S := (· = b4)) (Only.refl _ _ _).drew (.inl rfl) _
  have N4 := Aside0.mk (show At W16 b4 27 (dd.map bv) by subst hW; exact N4.out.drew.setRow _)
  have BL := Aside0.mk (BL.out.only hO (fun b hb hd => hd.1.2 hb))
  have B := Aside0.mk (B.out.trans (hO.to_below B.out.size (fun b hb => by have e : b = b4 := hb; have h3 := L4.out; omega)))
  have O16 := Aside0.mk hO
  clear hW hO
  refine hK _ _ O16.out (fun _ => ?_)
  clear hK K
  refine frame_ (a' := ?aa3) ?ha3 ?nx3
  case ha3 =>
    simp only [Go.Proofs.YtbpfmlckddhgbaaGreatDoorW.PrintLast.putAll, Act.put, List.setIfInBounds_toArray, List.set_cons_zero, List.set_cons_succ]
    rfl
  refine one_ (i := 3) (N := some 5) #[true, true, true, true, false] rfl rfl (by kernel_rfl) (by decide) (fun K hK => ?_)
  rw [if_pos (by rfl)]
  refine wpo_assign (some 5) rfl _ rfl _ rfl ?_
  refine hK _ _ O16.out (fun _ => ?_)
  clear hK K
  refine frame_ (a' := ?aa4) ?ha4 ?nx4
  case ha4 =>
    simp only [Go.Proofs.YtbpfmlckddhgbaaGreatDoorW.PrintLast.putAll, Act.put, List.setIfInBounds_toArray, List.set_cons_zero, List.set_cons_succ]
    rfl
  refine one_ (i := 4) (N := some 6) #[true, true, true, true, true] rfl rfl (by kernel_rfl) (by decide) (fun K hK => ?_)
  rw [if_pos (by rfl)]
  refine wpo_assign (some 6) rfl _ rfl _ rfl ?_
  refine hK _ _ O16.out (fun _ => ?_)
  clear hK K
  refine frame_ (a' := ?aa5) ?ha5 ?nx5
  case ha5 =>
    simp only [Go.Proofs.YtbpfmlckddhgbaaGreatDoorW.PrintLast.putAll, Act.put, List.setIfInBounds_toArray, List.set_cons_zero, List.set_cons_succ]
    rfl
  refine done_ (by kernel_rfl) ?_
  go_wp2_with fail
  refine bodyPost_ret (results_cell_tmp2 rfl _ _ b4 27 _ _ rfl N4.out tu27 rfl (by rw [List.length_map, DDL.out]; exact size27)) rfl ?_
  refine ⟨v, by rw [← DD.out.1]; rfl, BL.out.mono (fun b _ hd => hd.1.1), B.out⟩
end Go.Proofs.YtbpfmlckddhgbaaGreatDoor
/- tree: Keep, where each blob is new to the Store and has room. -/
namespace Go.Proofs.YtbpfmlckddhgbaaGreatDoor
set_option linter.unusedVariables false
set_option linter.unusedSimpArgs false
open Go Go.RowKit Go.Maps Go.WideMaps Go.Proofs.YtbpfmlckddhgbaaGreatDoorW.PrintWords Go.Proofs.YtbpfmlckddhgbaaGreatDoorW.PrintLast
def putOk (σ : Sto) (b : List UInt8) : Prop := σ.m (digL σ.width b) = none ∧ 0 ≤ σ.used ∧ σ.used + ((b.length : Int) + 32) ≤ σ.cap ∧ σ.cap ≤ 67108864 ∧ 0 ≤ σ.last ∧ σ.last < 4611686018427387904 ∧ 0 ≤ σ.puts ∧ σ.puts < 4611686018427387904 ∧ σ.sz < maxLen ∧ b.length ≤ 1048576 ∧ b ≠ []
def putσ (σ : Sto) (b : List UInt8) : Sto := ({ σ with puts := σ.puts + 1 } : Sto).laid (digL σ.width b) b
def putAll : Sto → List (List UInt8) → Sto → Prop
  | σ, [], σ' => σ = σ'
  | σ, b :: bs, σ' => putOk σ b ∧ putAll (putσ σ b) bs σ'
structure KSt (w wr : World) (s bm b4 b6 lo L : Nat) (σ σF : Sto) (M : MapF) (v : Value) (dd : List UInt8) (bs : List (List UInt8)) (k : Nat) : Prop where
  st : HSt wr s bm σ M
  off : MOff M b4
  n4 : At wr b4 27 (List.replicate 32 (bv 0))
  n6 : At wr b6 27 (dd.map bv)
  bl : Blobs wr (fun b => lo ≤ b ∧ b < L) v bs
  only : Only (fun b => b = s ∨ b = bm) w.heap.size w wr
  left : putAll σ (bs.drop k) σF
  ord : s < w.heap.size ∧ bm < w.heap.size ∧ w.heap.size ≤ b4 ∧ b4 < lo ∧ lo ≤ L ∧ L ≤ b6 ∧ b6 < wr.heap.size
set_option maxRecDepth 8000 in
set_option maxHeartbeats 1000000 in
theorem keep_calls (w : World) (s bm : Nat) (σ σF : Sto) (M : MapF) (hi : Nat) (A : Option Addr) (c : Nat) (its : List Itm) (f : Nat) (es : List Ent) (j : Nat) (bl' : List (List UInt8)) (hH : HSt w s bm σ M) (hI : RdI w hi A its) (hhi : hi ≤ w.heap.size) (h0 : 0 < hi) (hG : Glob w) (hs0 : s ≠ 0 ∧ bm ≠ 0) (hdl : ∀ x ∈ its, x.data.length ≤ 1099511627776)
    (hT : isTreeM its = true) (hM : rowM σ.width its f ⟨#[]⟩ 0 [] [] = some (es, j, bl')) (hok : okRow es = true) (hbl : bl'.length < 1048576) (hP : putAll σ (addB bl' (encL es)) σF) :
    Calls Tryz.prog 23 #[.pointer (some ⟨s, 0, none⟩), .slice A its.length c] w fun e w' => e = .returned (.tuple #[digV (digL σ.width (encL es)), .int .i64 0]) ∧ (∃ M', HSt w' s bm σF M') ∧ Only (fun b => b = s ∨ b = bm) w.heap.size w w' := by
  have HH := Aside0.mk hH
  have SB := Aside0.mk (show s < w.heap.size ∧ bm < w.heap.size from ⟨hH.cells.lt, hH.map.lt⟩)
  have HI := Aside0.mk hI
  have HB := Aside0.mk (And.intro hhi h0)
  have HG := Aside0.mk hG
  have DL := Aside0.mk hdl
  have TT := Aside0.mk hT
  have HM := Aside0.mk hM
  have OKR := Aside0.mk (And.intro hok hbl)
  have WD := Aside0.mk hH.wd
  obtain ⟨bs, hbs⟩ : ∃ bs, bs = addB bl' (encL es) := ⟨_, rfl⟩
  rw [← hbs] at hP
  have BS := Aside0.mk hbs
  have PP := Aside0.mk hP
  have hbl2 : bs.length < 1048577 := by rw [hbs]; unfold addB; split; omega; rw [List.length_append, List.length_singleton]; omega
  obtain ⟨dd, hdd⟩ : ∃ dd, dd = digL σ.width (encL es) := ⟨_, rfl⟩
  obtain ⟨dgv, hdgv⟩ : ∃ dgv, dgv = digV dd := ⟨_, rfl⟩
  rw [← hdd, ← hdgv]
  have DD := Aside0.mk (And.intro hdd hdgv)
  have DDL := Aside0.mk (show dd.length = 32 by rw [hdd]; exact digL_len _ _ hH.wd.2)
  clear hH hI hhi h0 hG hdl hT hM hok hbl hP hbs hdd hdgv
  go_enter Tryz.func23, Tryz.ntmps23
  go_wp2_with (first
    | (have G := M5.out
       refine arm_alloc rfl 27 rfl _ _ info27 ?_; intro W6 b6 hb hW
       have hB : Below w5.heap.size w5 W6 := by subst hW; exact (Below.refl _ _).alloc (Nat.le_refl _) _
       have hN : At W6 b6 27 (List.replicate 32 (bv 0)) := by subst hW hb; exact At.new _ _ _
       have L6 := Aside0.mk (show b6 = w5.heap.size from hb)
       have N4 := Aside0.mk (N4.out.below hB N4.out.lt)
       have BL := Aside0.mk (BL.out.below hB)
       have B := Aside0.mk (B.out.trans (hB.mono B.out.size))
       have N6 := Aside0.mk hN
       clear hN hb hW hB)
    | (refine arm_alloc rfl 27 rfl _ _ info27 ?_; intro W4 b4 hb hW
       have hB : Below w.heap.size w W4 := by subst hW; exact (Below.refl _ _).alloc (Nat.le_refl _) _
       have hN : At W4 b4 27 (List.replicate 32 (bv 0)) := by subst hW hb; exact At.new _ _ _
       have L4 := Aside0.mk (show b4 = w.heap.size ∧ b4 < W4.heap.size from ⟨hb, hN.lt⟩)
       have N4 := Aside0.mk hN
       have B := Aside0.mk hB
       clear hN hb hW hB)
    | (go_at_call 82
       refine (width_calls W4 s bm σ M (HH.out.below B.out)).mono ?_
       rintro e w4 ⟨rfl, rfl⟩)
    | (go_at_call 19
       have hcall := build_calls w4 σ.width hi A c its f es j bl' WD.out.1 WD.out.2 (HI.out.only (Only.of_below (S := fun _ => False) B.out) HB.out.1 (fun _ h => h.elim)) (Nat.le_trans HB.out.1 B.out.size) HB.out.2 (HG.out.below B.out) DL.out TT.out HM.out OKR.out.1 OKR.out.2
       rw [← DD.out.1, ← DD.out.2, ← BS.out] at hcall
       refine hcall.mono ?_
       rintro e w5 ⟨v, rfl, hbv, hB⟩
       have N4 := Aside0.mk (N4.out.below hB N4.out.lt)
       have BL := Aside0.mk (show Blobs w5 (fun b => w4.heap.size ≤ b ∧ b < w5.heap.size) v bs from hbv.mono (fun b hb hd => ⟨hd, hb⟩))
       have L5 := Aside0.mk (show w.heap.size ≤ w4.heap.size ∧ w4.heap.size ≤ w5.heap.size from ⟨B.out.size, hB.size⟩)
       have B := Aside0.mk (B.out.trans (hB.mono B.out.size))
       obtain ⟨vs, hvs, hvl, hvd⟩ := hbv.row
       obtain ⟨Av, cv, hv, hcv⟩ := hvs.cap
       rw [hvl] at hv
       subst hv
       have M5 := Aside0.mk True.intro
       clear hcall hbv hB hvs hvd hcv hvl)
    | (refine arm_store_row rfl 27 _ _ rfl b6 27 _ (dd.map bv) rfl DD.out.2 N6.out (by rw [List.length_map, DDL.out]; rfl) (by rw [List.length_map, DDL.out]; exact size27) (one_bv _) ?_
       intro W7 hW
       have hO : Only (· = b6) W6.heap.size W6 W7 := by subst hW; exact Only.setRow (S := (· = b6)) (Only.refl _ _ _) (.inl rfl) _
       have h1 := L4.out
       have h2 := L5.out
       have h3 := L6.out
       have N6 := Aside0.mk (show At W7 b6 27 (dd.map bv) by subst hW; exact N6.out.setRow _)
       have N4 := Aside0.mk (hO.at_ N4.out.lt (by omega) N4.out)
       have BL := Aside0.mk (BL.out.only hO (fun b hb hd => by have e : b = b6 := hb; omega))
       have B := Aside0.mk (B.out.trans (hO.to_below B.out.size (fun b hb => by have e : b = b6 := hb; omega)))
       clear hW hO h1 h2 h3)
    | fail)
  have K0 : Aside0 (KSt w W7 s bm b4 b6 w4.heap.size w5.heap.size σ σF M (.slice Av bs.length cv) dd bs 0) := ⟨⟨HH.out.below B.out, HH.out.off (by have := L4.out; omega), N4.out, N6.out, BL.out, Only.of_below B.out, PP.out, by have h1 := L4.out; have h2 := L5.out; have h3 := L6.out; have h4 := SB.out; have h5 := N6.out.lt; omega⟩⟩
  go_loopg [27] bs.length (fun g i wr => ∃ (k : Nat) (σk : Sto) (Mk : MapF), Aside0 (k + g = bs.length) ∧ i = .int .i64 k ∧ Aside0 (KSt w wr s bm b4 b6 w4.heap.size w5.heap.size σk σF Mk (.slice Av bs.length cv) dd bs k))
  case atStart => exact ⟨0, σ, M, ⟨by omega⟩, rfl, K0⟩
  case round =>
    obtain ⟨k, σk, Mk, HJ, rfl, KS⟩ := hrel
    by_cases hlt : k < bs.length
    · obtain ⟨b, hb⟩ : ∃ b, bs[k]? = some b := ⟨_, List.getElem?_eq_getElem hlt⟩
      have hp := KS.out.left
      rw [List.drop_eq_getElem_cons hlt, (List.getElem?_eq_some_iff.1 hb).2] at hp
      obtain ⟨vs', h1, h2, h3⟩ := KS.out.bl.row
      obtain ⟨A1, c1, e1, _, r1⟩ := h1.reads
      obtain ⟨adv, hA, _, hcells⟩ := r1 (by intro h; rw [h] at h2; simp at h2; omega)
      obtain ⟨Ak, ck, g1, g2, g3⟩ := h3 k b hb
      have kb := hcells k _ g1
      injection e1 with e2 e3 e4
      rw [hA] at e2
      subst e2
      have PK := Aside0.mk hp
      have GK := Aside0.mk (And.intro g2 g3)
      obtain ⟨nb, hnb⟩ : ∃ nb, nb = b.length := ⟨_, rfl⟩
      rw [← hnb] at kb
      have NB := Aside0.mk hnb
      clear hp h1 h2 h3 r1 hcells g1 g2 g3 e3 e4 hA hb hnb
      go_wp2_with (first
        | (go_at_call 83
           have hR : RdL wr Ak b := fun hne => by
             obtain ⟨ad, q1, q2, q3, q4, q5⟩ := GK.out.2 hne
             exact ⟨ad, q1, q3, q5⟩
           have hpo := PK.out.1
           have hAs : ∀ ad, Ak = some ad → ad.block ≠ s := fun ad had => by
             obtain ⟨ad', q1, q2, _⟩ := GK.out.2 hpo.2.2.2.2.2.2.2.2.2.2
             rw [had] at q1; injection q1 with q1; subst q1
             have h1 := KS.out.ord
             omega
           have hcall := put_calls wr s bm σk Mk Ak ck b KS.out.st hR hpo.2.2.2.2.2.2.2.2.2.1 GK.out.1 hAs hpo.1 hpo.2.1 hpo.2.2.1 hpo.2.2.2.1 hpo.2.2.2.2.1 hpo.2.2.2.2.2.1 hpo.2.2.2.2.2.2.1 hpo.2.2.2.2.2.2.2.1 hpo.2.2.2.2.2.2.2.2.1
           rw [← NB.out] at hcall
           refine hcall.mono ?_
           rintro e w8 ⟨rfl, ⟨M', hM', hoff⟩, hO⟩
           have h1 := KS.out.ord
           have hn : ∀ b, w.heap.size ≤ b → ¬ (b = s ∨ b = bm) := fun b hb h => by omega
           have K8 : Aside0 (KSt w w8 s bm b4 b6 w4.heap.size w5.heap.size (putσ σk b) σF M' (.slice (some adv) bs.length cv) dd bs (k + 1)) := ⟨⟨hM', hoff b4 (by omega) KS.out.off, hO.at_ KS.out.n4.lt (hn b4 (by omega)) KS.out.n4, hO.at_ KS.out.n6.lt (hn b6 (by omega)) KS.out.n6, KS.out.bl.only hO (fun b hb hd => by have := hd.1; omega), KS.out.only.trans (hO.mono KS.out.only.size (fun _ _ h => h)), PK.out.2, by have := hO.size; omega⟩⟩
           obtain ⟨dk, hdk⟩ : ∃ dk, dk = digL σk.width b := ⟨_, rfl⟩
           rw [← hdk]
           obtain ⟨dkv, hdkv⟩ : ∃ dkv, dkv = digV dk := ⟨_, rfl⟩
           rw [← hdkv]
           have DKV := Aside0.mk (And.intro hdkv (show dk.length = 32 by rw [hdk]; exact digL_len _ _ KS.out.st.wd.2))
           clear hcall hR hpo hAs hM' hoff hO h1 hn hdk hdkv)
        | (refine arm_alloc rfl 27 rfl _ _ info27 ?_; intro W9 b9 hb hW
           have hB : Below w8.heap.size w8 W9 := by subst hW; exact (Below.refl _ _).alloc (Nat.le_refl _) _
           have hN : At W9 b9 27 (List.replicate 32 (bv 0)) := by subst hW hb; exact At.new _ _ _
           have h1 := K8.out.ord
           have K9 : Aside0 (KSt w W9 s bm b4 b6 w4.heap.size w5.heap.size (putσ σk b) σF M' (.slice (some adv) bs.length cv) dd bs (k + 1)) := ⟨⟨K8.out.st.below hB, K8.out.off, K8.out.n4.below hB K8.out.n4.lt, K8.out.n6.below hB K8.out.n6.lt, K8.out.bl.below hB, K8.out.only.trans ((Only.of_below hB).mono K8.out.only.size (fun _ _ h => h)), K8.out.left, by have := hB.size; omega⟩⟩
           have L9 := Aside0.mk (show b9 = w8.heap.size ∧ w8.heap.size ≤ W9.heap.size from ⟨hb, hB.size⟩)
           have OF9 := Aside0.mk (K8.out.st.off (b := b9) (by omega))
           have N9 := Aside0.mk hN
           clear hN hb hW hB h1)
        | (refine arm_store_row rfl 27 _ _ rfl b9 27 _ (dk.map bv) rfl DKV.out.1 N9.out (by rw [List.length_map, DKV.out.2]; rfl) (by rw [List.length_map, DKV.out.2]; exact size27) (one_bv _) ?_
           intro W10 hW
           have hO : Only (· = b9) W9.heap.size W9 W10 := by subst hW; exact Only.setRow (S := (· = b9)) (Only.refl _ _ _) (.inl rfl) _
           have h1 := K8.out.ord
           have h2 := L9.out
           have K10 : Aside0 (KSt w W10 s bm b4 b6 w4.heap.size w5.heap.size (putσ σk b) σF M' (.slice (some adv) bs.length cv) dd bs (k + 1)) := ⟨⟨K9.out.st.write hO (by omega) (by omega) OF9.out, K9.out.off, hO.at_ K9.out.n4.lt (by omega) K9.out.n4, hO.at_ K9.out.n6.lt (by omega) K9.out.n6, K9.out.bl.only hO (fun b hb hd => by have e : b = b9 := hb; omega), K9.out.only.trans (hO.mono K9.out.only.size (fun b hb' h => by have e : b = b9 := h; omega)), K9.out.left, by have := hO.size; omega⟩⟩
           clear hW hO h1 h2)
        | fail)
      go_roundg (bs.length - (k + 1))
      case measure => have := HJ.out; omega
      case rel => exact ⟨k + 1, putσ σk b, M', ⟨by omega⟩, by go_num, K10⟩
    · obtain rfl : k = bs.length := by have := HJ.out; omega
      have hfin : σk = σF := by have h := KS.out.left; rw [List.drop_length] at h; exact h
      subst hfin
      go_wp2_with (first
        | (refine arm_load_row rfl 27 _ rfl b6 0 rfl (dd.map bv) KS.out.n6.rangeAll (by kernel_rfl) (by rw [List.length_map, DDL.out]; exact size27) ?_
           intro v42 hv
           have V42 := Aside0.mk hv
           clear hv)
        | (refine arm_store_row rfl 27 _ _ rfl b4 27 _ (dd.map bv) rfl V42.out KS.out.n4 (by rw [List.length_map, DDL.out]; rfl) (by rw [List.length_map, DDL.out]; exact size27) (one_bv _) ?_
           intro W11 hW
           have O11 := Aside0.mk (show Only (· = b4) wr.heap.size wr W11 by subst hW; exact Only.setRow (S := (· = b4)) (Only.refl _ _ _) (.inl rfl) _)
           have N11 := Aside0.mk (show At W11 b4 27 (dd.map bv) by subst hW; exact KS.out.n4.setRow _)
           clear hW)
        | fail)
      have h1 := KS.out.ord
      refine bodyPost_ret (results_cell_tmp rfl _ _ b4 27 _ _ rfl N11.out tu27 rfl (by rw [List.length_map, DDL.out]; exact size27)) rfl ?_
      exact ⟨by rw [DD.out.2]; rfl, ⟨Mk, KS.out.st.write O11.out (by omega) (by omega) KS.out.off⟩, KS.out.only.trans (O11.out.mono KS.out.only.size (fun b hb' h => by have e : b = b4 := h; omega))⟩
end Go.Proofs.YtbpfmlckddhgbaaGreatDoor
/- tree: Load's inner function get. -/
namespace Go.Proofs.YtbpfmlckddhgbaaGreatDoor
set_option linter.unusedVariables false
set_option linter.unusedSimpArgs false
open Go Go.RowKit Go.Maps Go.WideMaps Go.Proofs.YtbpfmlckddhgbaaGreatDoorW.PrintWords Go.Proofs.YtbpfmlckddhgbaaGreatDoorW.PrintLast
def getR (depth nodes : Int) (σ : Sto) (d : List UInt8) (deep : Int) : Int × List UInt8 × Int × Sto :=
  if depth < deep then (33, [], nodes, σ) else if nodes < 1 then (62, [], nodes, σ) else (σ.getE d, σ.getV d, nodes - 1, { σ with gets := σ.gets + 1 })
set_option maxRecDepth 4000 in
theorem lget_calls (w : World) (bd bn bsv s bm : Nat) (depth nodes deep : Int) (σ : Sto) (M : MapF) (d : List UInt8) (hdep : At w bd 3 [.int .i64 depth]) (hnod : At w bn 3 [.int .i64 nodes]) (hsv : At w bsv 38 [.pointer (some ⟨s, 0, none⟩)]) (hH : HSt w s bm σ M) (hoff : MOff M bn)
    (hne : bn ≠ s ∧ bn ≠ bm ∧ bn ≠ bsv ∧ bn ≠ bd) (hd : d.length = 32) (hg : 0 ≤ σ.gets ∧ σ.gets < 4611686018427387904) (hnb : nodes ≤ 4611686018427387904) :
    Calls Tryz.prog 84 #[digV d, .int .i64 deep, .pointer (some ⟨bd, 0, none⟩), .pointer (some ⟨bn, 0, none⟩), .pointer (some ⟨bsv, 0, none⟩)] w fun e w' => ∃ v, e = .returned (.tuple #[v, .int .i64 (getR depth nodes σ d deep).1]) ∧ Own w' 5 v ((getR depth nodes σ d deep).2.1.map bv) ∧ (∀ k, v.ownBlock = some k → w.heap.size ≤ k) ∧
      HSt w' s bm (getR depth nodes σ d deep).2.2.2 M ∧ At w' bn 3 [.int .i64 (getR depth nodes σ d deep).2.2.1] ∧ Only (fun b => b = bn ∨ b = s) w.heap.size w w' := by
  have HN := Aside0.mk hnod
  have HS := Aside0.mk hsv
  have HH := Aside0.mk hH
  have OF := Aside0.mk hoff
  have NE := Aside0.mk hne
  have HD := Aside0.mk hd
  have HG := Aside0.mk hg
  have DP := Aside0.mk hdep
  obtain ⟨dv, hdv⟩ : ∃ dv, dv = digV d := ⟨_, rfl⟩
  rw [← hdv]
  have DV := Aside0.mk hdv
  clear hdep hnod hsv hH hoff hne hd hg hdv
  by_cases h1 : depth < deep
  · rw [show getR depth nodes σ d deep = (33, [], nodes, σ) by unfold getR; rw [if_pos h1]]
    have t1 : decide (deep > depth) = true := decide_eq_true h1
    have t1b : decide (depth < deep) = true := decide_eq_true h1
    go_enter Tryz.func84, Tryz.ntmps84
    go_wp2_with (first
      | (refine arm_box rfl 27 _ rfl (d.map bv) DV.out ?_; intro W5 b5 hb hW
         have hB : Below w.heap.size w W5 := by subst hW; exact (Below.refl _ _).alloc (Nat.le_refl _) _
         have k2 : W5.cell? ⟨bd, 0, none⟩ = some (.int .i64 depth) := by rw [(DP.out.below hB DP.out.lt).cell]; rfl
         have B := Aside0.mk hB
         clear hb hW hB)
      | fail)
    go_ret2
    exact ⟨_, rfl, Own.nil _ _, fun k hk => by simp [Value.ownBlock] at hk, HH.out.below B.out, HN.out.below B.out HN.out.lt, Only.of_below B.out⟩
  · have t1 : decide (deep > depth) = false := decide_eq_false h1
    have t1b : decide (depth < deep) = false := decide_eq_false h1
    by_cases h2 : nodes < 1
    · rw [show getR depth nodes σ d deep = (62, [], nodes, σ) by unfold getR; rw [if_neg h1, if_pos h2]]
      have t2 : decide (nodes < 1) = true := decide_eq_true h2
      clear h1 h2
      go_enter Tryz.func84, Tryz.ntmps84
      go_wp2_with (first
        | (refine arm_box rfl 27 _ rfl (d.map bv) DV.out ?_; intro W5 b5 hb hW
           have hB : Below w.heap.size w W5 := by subst hW; exact (Below.refl _ _).alloc (Nat.le_refl _) _
           have k2 : W5.cell? ⟨bd, 0, none⟩ = some (.int .i64 depth) := by rw [(DP.out.below hB DP.out.lt).cell]; rfl
           have k3 : W5.cell? ⟨bn, 0, none⟩ = some (.int .i64 nodes) := by rw [(HN.out.below hB HN.out.lt).cell]; rfl
           have B := Aside0.mk hB
           clear hb hW hB)
        | fail)
      go_ret2
      exact ⟨_, rfl, Own.nil _ _, fun k hk => by simp [Value.ownBlock] at hk, HH.out.below B.out, HN.out.below B.out HN.out.lt, Only.of_below B.out⟩
    · rw [show getR depth nodes σ d deep = (σ.getE d, σ.getV d, nodes - 1, { σ with gets := σ.gets + 1 }) by unfold getR; rw [if_neg h1, if_neg h2]]
      have t2 : decide (nodes < 1) = false := decide_eq_false h2
      have h3 : 1 ≤ nodes := by omega
      clear h1 h2
      go_enter Tryz.func84, Tryz.ntmps84
      go_wp2_with (first
        | (refine arm_box rfl 27 _ rfl (d.map bv) DV.out ?_; intro W5 b5 hb hW
           have hB : Below w.heap.size w W5 := by subst hW; exact (Below.refl _ _).alloc (Nat.le_refl _) _
           have hN : At W5 b5 27 (d.map bv) := by subst hW hb; exact At.new _ _ _
           have k2 : W5.cell? ⟨bd, 0, none⟩ = some (.int .i64 depth) := by rw [(DP.out.below hB DP.out.lt).cell]; rfl
           have L5 := Aside0.mk (show b5 ≠ bn by have := HN.out.lt; omega)
           have HN := Aside0.mk (HN.out.below hB HN.out.lt)
           have HS := Aside0.mk (HS.out.below hB HS.out.lt)
           have HH := Aside0.mk (HH.out.below hB)
           have k3 : W5.cell? ⟨bn, 0, none⟩ = some (.int .i64 nodes) := by rw [HN.out.cell]; rfl
           have f3 : W5.frozen? ⟨bn, 0, none⟩ = false := HN.out.frozen _
           have N5 := Aside0.mk hN
           have B := Aside0.mk hB
           clear hb hW hB hN)
        | (refine arm_store_int rfl 3 _ _ rfl ⟨bn, 0, none⟩ rfl .i64 (nodes - 1) rfl _ k3 f3 size3 rfl ?_
           intro W6 hW
           have hO : Only (· = bn) W5.heap.size W5 W6 := by subst hW; exact Only.setCell (S := (· = bn)) (a := ⟨bn, 0, none⟩) (Only.refl _ _ _) (.inl rfl) _
           have HN := Aside0.mk (show At W6 bn 3 [.int .i64 (nodes - 1)] by subst hW; exact HN.out.setCell 0 _)
           have hSv := hO.at_ HS.out.lt (Ne.symm NE.out.2.2.1) HS.out
           have k4 : W6.cell? ⟨bsv, 0, none⟩ = some (.pointer (some ⟨s, 0, none⟩)) := by rw [hSv.cell]; rfl
           have HH := Aside0.mk (HH.out.write hO (Ne.symm NE.out.1) (Ne.symm NE.out.2.1) OF.out)
           have N5 := Aside0.mk (hO.at_ N5.out.lt L5.out N5.out)
           have O := Aside0.mk ((Only.of_below (S := (· = bn)) B.out).trans (hO.mono B.out.size (fun _ _ h => h)))
           clear hW hO hSv k3 f3)
        | (refine arm_load_row rfl 27 _ rfl b5 0 rfl (d.map bv) N5.out.rangeAll (by kernel_rfl) (by rw [List.length_map, HD.out]; exact size27) ?_
           intro v17 hv0
           have hv : v17 = dv := hv0.trans DV.out.symm
           clear hv0
           subst v17)
        | (go_at_call 85
           have hcall := get_calls W6 s bm σ M d HH.out HD.out HG.out.1 HG.out.2
           rw [← DV.out] at hcall
           refine hcall.mono ?_
           rintro e w7 ⟨v, rfl, hv1, hv2, hH7, hO7⟩
           have FIN := Aside0.mk (show Own w7 5 v ((σ.getV d).map bv) ∧ (∀ k, v.ownBlock = some k → w.heap.size ≤ k) ∧ HSt w7 s bm { σ with gets := σ.gets + 1 } M ∧ At w7 bn 3 [.int .i64 (nodes - 1)] ∧ Only (fun b => b = bn ∨ b = s) w.heap.size w w7 from ⟨hv1, fun k hk => Nat.le_trans O.out.size (hv2 k hk), hH7, hO7.at_ HN.out.lt NE.out.1 HN.out, (O.out.mono (Nat.le_refl _) (fun _ _ h => Or.inl h)).trans (hO7.mono O.out.size (fun _ _ h => Or.inr h))⟩)
           clear hcall hv1 hv2 hH7 hO7)
        | fail)
      go_ret2
      exact ⟨v, rfl, FIN.out.1, FIN.out.2.1, FIN.out.2.2.1, FIN.out.2.2.2.1, FIN.out.2.2.2.2⟩
end Go.Proofs.YtbpfmlckddhgbaaGreatDoor
/- tree: what Load's inner functions share; what its walk computes (no walk here). -/
namespace Go.Proofs.YtbpfmlckddhgbaaGreatDoor
set_option linter.unusedVariables false
open Go Go.RowKit Go.Maps Go.WideMaps
def icellsL : List Itm → List (Option Addr × Nat) → List Value
  | x :: xs, a :: As => icells x a.1 a.2 ++ icellsL xs As
  | _, _ => []
theorem icellsL_snoc : ∀ (its : List Itm) (As : List (Option Addr × Nat)) (x : Itm) (a : Option Addr × Nat), As.length = its.length → icellsL (its ++ [x]) (As ++ [a]) = icellsL its As ++ icells x a.1 a.2
  | [], [], x, a, _ => by simp [icellsL]
  | y :: its, b :: As, x, a, h => by
    have e := icellsL_snoc its As x a (by simpa using h)
    simp only [List.cons_append, icellsL, e, List.append_assoc]
  | [], _ :: _, _, _, h => by simp at h
  | _ :: _, [], _, _, h => by simp at h
structure ItRow (w : World) (D : Nat → Prop) (v : Value) (its : List Itm) : Prop where
  row : ∃ As : List (Option Addr × Nat), As.length = its.length ∧ OwnR w 50 3 v its.length (icellsL its As) ∧ ∀ (i : Nat) (x : Itm), its[i]? = some x → ∃ A c, As[i]? = some (A, c) ∧ x.data.length ≤ c ∧
    (x.data ≠ [] → ∃ ad, A = some ad ∧ D ad.block ∧ ad.block < w.heap.size ∧ v.ownBlock ≠ some ad.block ∧ ∀ k, k < x.data.length → w.cell? (ad.add k) = some (bv (x.data.getD k 0)))
  fresh : ∀ k, v.ownBlock = some k → D k
namespace ItRow
variable {w w1 : World} {D : Nat → Prop} {v : Value} {its : List Itm}
theorem nil (w : World) (D : Nat → Prop) : ItRow w D (.slice none 0 0) [] := ⟨⟨[], rfl, OwnR.nil _ _ _, fun i x h => by simp at h⟩, fun k hk => by simp [Value.ownBlock] at hk⟩
theorem lt (h : ItRow w D v its) {k : Nat} (hk : v.ownBlock = some k) : k < w.heap.size := by obtain ⟨As, _, h1, _⟩ := h.row; exact h1.lt hk
theorem only {S : Nat → Prop} (h : ItRow w D v its) (ho : Only S w.heap.size w w1) (hS : ∀ b, S b → ¬ D b) : ItRow w1 D v its := by
  obtain ⟨As, h1, h2, h3⟩ := h.row
  refine ⟨⟨As, h1, h2.only ho (fun k hk => ⟨h2.lt hk, fun hs => hS k hs (h.fresh k hk)⟩), fun i x hx => ?_⟩, h.fresh⟩
  obtain ⟨A, c, g1, g2, g3⟩ := h3 i x hx
  refine ⟨A, c, g1, g2, fun hne => ?_⟩
  obtain ⟨ad, q1, q2, q3, q4, q5⟩ := g3 hne
  exact ⟨ad, q1, q2, Nat.lt_of_lt_of_le q3 ho.size, q4, fun k hk => by rw [ho.cell (by rw [add_block]; exact q3) (by rw [add_block]; exact fun hs => hS _ hs q2)]; exact q5 k hk⟩
theorem below (h : ItRow w D v its) (ho : Below w.heap.size w w1) : ItRow w1 D v its := h.only (Only.of_below (S := fun _ => False) ho) (fun _ h => h.elim)
theorem mono (h : ItRow w D v its) {D' : Nat → Prop} (hD : ∀ b, b < w.heap.size → D b → D' b) : ItRow w D' v its := by
  obtain ⟨As, h1, h2, h3⟩ := h.row
  refine ⟨⟨As, h1, h2, fun i x hx => ?_⟩, fun k hk => hD k (h2.lt hk) (h.fresh k hk)⟩
  obtain ⟨A, c, g1, g2, g3⟩ := h3 i x hx
  refine ⟨A, c, g1, g2, fun hne => ?_⟩
  obtain ⟨ad, q1, q2, q3, q4⟩ := g3 hne
  exact ⟨ad, q1, hD _ q3 q2, q3, q4⟩
theorem snoc {v1 : Value} {x : Itm} {A : Option Addr} {c : Nat} {As : List (Option Addr × Nat)} (h : ItRow w D v its) (hAs : As.length = its.length) (hown : OwnR w 50 3 v its.length (icellsL its As))
    (hinfo : ∀ (i : Nat) (x : Itm), its[i]? = some x → ∃ A c, As[i]? = some (A, c) ∧ x.data.length ≤ c ∧ (x.data ≠ [] → ∃ ad, A = some ad ∧ D ad.block ∧ ad.block < w.heap.size ∧ v.ownBlock ≠ some ad.block ∧ ∀ k, k < x.data.length → w.cell? (ad.add k) = some (bv (x.data.getD k 0))))
    (hv1 : OwnR w1 50 3 v1 (its.length + 1) (icellsL its As ++ icells x A c)) (hc : x.data.length ≤ c)
    (hO : Only (fun b => v.ownBlock = some b) w.heap.size w w1) (hq : v1.ownBlock = v.ownBlock ∨ ∃ k, v1.ownBlock = some k ∧ w.heap.size ≤ k ∧ D k)
    (hr : x.data ≠ [] → ∃ ad, A = some ad ∧ D ad.block ∧ ad.block < w.heap.size ∧ v.ownBlock ≠ some ad.block ∧ ∀ k, k < x.data.length → w.cell? (ad.add k) = some (bv (x.data.getD k 0))) : ItRow w1 D v1 (its ++ [x]) := by
  have hne : ∀ ad : Addr, ad.block < w.heap.size → v.ownBlock ≠ some ad.block → v1.ownBlock ≠ some ad.block := fun ad h1 h2 => by
    rcases hq with hq | ⟨k, hq, hk, _⟩
    · rw [hq]; exact h2
    · rw [hq]; intro e; injection e with e; omega
  have hcell : ∀ (ad : Addr) (b : List UInt8), ad.block < w.heap.size → v.ownBlock ≠ some ad.block → (∀ k, k < b.length → w.cell? (ad.add k) = some (bv (b.getD k 0))) → ∀ k, k < b.length → w1.cell? (ad.add k) = some (bv (b.getD k 0)) := fun ad b g1 g2 g3 k hk => by
    rw [hO.cell (by rw [add_block]; exact g1) (by rw [add_block]; exact g2)]; exact g3 k hk
  refine ⟨⟨As ++ [(A, c)], by simp [hAs], by rw [List.length_append, icellsL_snoc its As x (A, c) hAs]; exact hv1, fun i y hi => ?_⟩, fun k hk => ?_⟩
  · by_cases hlt : i < its.length
    · rw [List.getElem?_append_left hlt] at hi
      obtain ⟨A', c', g1, g2, g3⟩ := hinfo i y hi
      refine ⟨A', c', by rw [List.getElem?_append_left (by omega)]; exact g1, g2, fun hbn => ?_⟩
      obtain ⟨ad, q1, q2, q3, q4, q5⟩ := g3 hbn
      exact ⟨ad, q1, q2, Nat.lt_of_lt_of_le q3 hO.size, hne ad q3 q4, hcell ad _ q3 q4 q5⟩
    · rw [List.getElem?_append_right (by omega)] at hi
      have h0 : i - its.length = 0 := by
        have := (List.getElem?_eq_some_iff.1 hi).1
        simp at this; omega
      rw [h0] at hi
      injection hi with hi
      subst hi
      refine ⟨A, c, by rw [List.getElem?_append_right (by omega), hAs, h0]; rfl, hc, fun hbn => ?_⟩
      obtain ⟨ad, q1, q2, q3, q4, q5⟩ := hr hbn
      exact ⟨ad, q1, q2, Nat.lt_of_lt_of_le q3 hO.size, hne ad q3 q4, hcell ad _ q3 q4 q5⟩
  · rcases hq with hq | ⟨k', hq, _, hd⟩
    · rw [hq] at hk; exact h.fresh k hk
    · rw [hq] at hk; injection hk with hk; rw [← hk]; exact hd
end ItRow
theorem HSt.onlyOff {w w1 : World} {s bm : Nat} {σ : Sto} {M : MapF} {S : Nat → Prop} (h : HSt w s bm σ M) (ho : Only S w.heap.size w w1) (hS : ∀ b, S b → b ≠ s ∧ b ≠ bm ∧ MOff M b) : HSt w1 s bm σ M := by
  refine ⟨ho.at_ h.cells.lt (fun hs => (hS s hs).1 rfl) h.cells, h.map.only ho h.map.lt (fun hs => (hS bm hs).2.1 rfl), h.ne, h.wd, fun d ds k hd => ?_, h.gone⟩
  obtain ⟨A', c', g1, g2, g3, g4⟩ := h.here d ds k hd
  refine ⟨A', c', g1, g2, g3, fun hne => ?_⟩
  obtain ⟨ad, q1, q2, q3, q4, q5⟩ := g4 hne
  subst q1
  have hb : ∀ b, S b → ad.block ≠ b := fun b hs => (hS b hs).2.2 d ad _ c' k g1 (List.length_pos_iff.2 hne)
  exact ⟨ad, rfl, Nat.lt_of_lt_of_le q2 ho.size, q3, q4, fun k hk => by rw [ho.cell (by rw [add_block]; exact q2) (by rw [add_block]; exact fun hs => hb _ hs rfl)]; exact q5 k hk⟩
structure LBk where
  bd : Nat
  bn : Nat
  bsv : Nat
  bl : Nat
  blf : Nat
  bg : Nat
  bw : Nat
  s : Nat
  bm : Nat
structure LSta where
  nodes : Int
  left : Int
  σ : Sto
  items : List Itm
structure LMem (w : World) (D : Nat → Prop) (base : Nat) (B : LBk) (depth : Int) (M : MapF) (st : LSta) (v : Value) : Prop where
  dep : At w B.bd 3 [.int .i64 depth]
  nod : At w B.bn 3 [.int .i64 st.nodes]
  sv : At w B.bsv 38 [.pointer (some ⟨B.s, 0, none⟩)]
  lv : At w B.bl 22 [v]
  lf : At w B.blf 3 [.int .i64 st.left]
  gf : At w B.bg 143 [.func (.func 84) #[] #[.pointer (some ⟨B.bd, 0, none⟩), .pointer (some ⟨B.bn, 0, none⟩), .pointer (some ⟨B.bsv, 0, none⟩)]]
  wf : At w B.bw 144 [.func (.func 86) #[] #[.pointer (some ⟨B.bg, 0, none⟩), .pointer (some ⟨B.bl, 0, none⟩), .pointer (some ⟨B.bw, 0, none⟩), .pointer (some ⟨B.blf, 0, none⟩)]]
  hst : HSt w B.s B.bm st.σ M
  its : ItRow w D v st.items
  offn : MOff M B.bn
  offl : MOff M B.bl
  offf : MOff M B.blf
  offv : ∀ k, v.ownBlock = some k → MOff M k
  dom : ∀ b, D b → base ≤ b
  ord : B.bd < base ∧ B.bn < base ∧ B.bsv < base ∧ B.bl < base ∧ B.blf < base ∧ B.bg < base ∧ B.bw < base ∧ B.s < base ∧ B.bm < base ∧ base ≤ w.heap.size
  nn : B.bn ≠ B.bd ∧ B.bn ≠ B.bsv ∧ B.bn ≠ B.bl ∧ B.bn ≠ B.blf ∧ B.bn ≠ B.bg ∧ B.bn ≠ B.bw ∧ B.bn ≠ B.s ∧ B.bn ≠ B.bm
  nl : B.bl ≠ B.bd ∧ B.bl ≠ B.bsv ∧ B.bl ≠ B.blf ∧ B.bl ≠ B.bg ∧ B.bl ≠ B.bw ∧ B.bl ≠ B.s ∧ B.bl ≠ B.bm
  nf : B.blf ≠ B.bd ∧ B.blf ≠ B.bsv ∧ B.blf ≠ B.bg ∧ B.blf ≠ B.bw ∧ B.blf ≠ B.s ∧ B.blf ≠ B.bm
  ns : B.s ≠ B.bd ∧ B.s ≠ B.bsv ∧ B.s ≠ B.bg ∧ B.s ≠ B.bw
def WrL (B : LBk) (v : Value) (b : Nat) : Prop := b = B.bn ∨ b = B.s ∨ b = B.bl ∨ b = B.blf ∨ v.ownBlock = some b
namespace LMem
variable {w w1 : World} {D : Nat → Prop} {base : Nat} {B : LBk} {depth : Int} {M : MapF} {st : LSta} {v : Value}
theorem only {S : Nat → Prop} (h : LMem w D base B depth M st v) (ho : Only S w.heap.size w w1) (hS : ∀ b, S b → base ≤ b ∧ ¬ D b ∧ MOff M b) : LMem w1 D base B depth M st v := by
  have h1 := h.ord
  have hn : ∀ b, b < base → ¬ S b := fun b hb hs => by have := (hS b hs).1; omega
  exact ⟨ho.at_ h.dep.lt (hn _ (by omega)) h.dep, ho.at_ h.nod.lt (hn _ (by omega)) h.nod, ho.at_ h.sv.lt (hn _ (by omega)) h.sv, ho.at_ h.lv.lt (hn _ (by omega)) h.lv, ho.at_ h.lf.lt (hn _ (by omega)) h.lf, ho.at_ h.gf.lt (hn _ (by omega)) h.gf, ho.at_ h.wf.lt (hn _ (by omega)) h.wf,
    h.hst.onlyOff ho (fun b hs => ⟨by have := (hS b hs).1; omega, by have := (hS b hs).1; omega, (hS b hs).2.2⟩), h.its.only ho (fun b hs => (hS b hs).2.1), h.offn, h.offl, h.offf, h.offv, h.dom, by have := ho.size; omega, h.nn, h.nl, h.nf, h.ns⟩
theorem below (h : LMem w D base B depth M st v) (ho : Below w.heap.size w w1) : LMem w1 D base B depth M st v := h.only (Only.of_below (S := fun _ => False) ho) (fun _ h => h.elim)
theorem mono (h : LMem w D base B depth M st v) {D' : Nat → Prop} (hD : ∀ b, b < w.heap.size → D b → D' b) (hd : ∀ b, D' b → base ≤ b) : LMem w D' base B depth M st v :=
  ⟨h.dep, h.nod, h.sv, h.lv, h.lf, h.gf, h.wf, h.hst, h.its.mono hD, h.offn, h.offl, h.offf, h.offv, hd, h.ord, h.nn, h.nl, h.nf, h.ns⟩
theorem ne2 {a b c : Nat} (h1 : b ≠ a) (h2 : c ≠ a) : ¬ (a = b ∨ a = c) := fun h => h.elim (fun e => h1 e.symm) (fun e => h2 e.symm)
theorem got (h : LMem w D base B depth M st v) {σ' : Sto} {n' : Int} (hst : HSt w1 B.s B.bm σ' M) (hnod : At w1 B.bn 3 [.int .i64 n']) (ho : Only (fun b => b = B.bn ∨ b = B.s) w.heap.size w w1) : LMem w1 D base B depth M { st with nodes := n', σ := σ' } v := by
  have h1 := h.ord
  exact ⟨ho.at_ h.dep.lt (ne2 h.nn.1 h.ns.1) h.dep, hnod, ho.at_ h.sv.lt (ne2 h.nn.2.1 h.ns.2.1) h.sv, ho.at_ h.lv.lt (ne2 h.nn.2.2.1 (Ne.symm h.nl.2.2.2.2.2.1)) h.lv, ho.at_ h.lf.lt (ne2 h.nn.2.2.2.1 (Ne.symm h.nf.2.2.2.2.1)) h.lf, ho.at_ h.gf.lt (ne2 h.nn.2.2.2.2.1 h.ns.2.2.1) h.gf, ho.at_ h.wf.lt (ne2 h.nn.2.2.2.2.2.1 h.ns.2.2.2) h.wf, hst,
    h.its.only ho (fun b hs hd => by have := h.dom b hd; rcases hs with hs | hs <;> omega), h.offn, h.offl, h.offf, h.offv, h.dom, by have := ho.size; omega, h.nn, h.nl, h.nf, h.ns⟩
theorem setLeft (h : LMem w D base B depth M st v) {l' : Int} (hl : At w1 B.blf 3 [.int .i64 l']) (ho : Only (· = B.blf) w.heap.size w w1) : LMem w1 D base B depth M { st with left := l' } v := by
  have h1 := h.ord
  exact ⟨ho.at_ h.dep.lt (Ne.symm h.nf.1) h.dep, ho.at_ h.nod.lt h.nn.2.2.2.1 h.nod, ho.at_ h.sv.lt (Ne.symm h.nf.2.1) h.sv, ho.at_ h.lv.lt h.nl.2.2.1 h.lv, hl, ho.at_ h.gf.lt (Ne.symm h.nf.2.2.1) h.gf, ho.at_ h.wf.lt (Ne.symm h.nf.2.2.2.1) h.wf,
    h.hst.onlyOff ho (fun b hs => by have e : b = B.blf := hs; subst e; exact ⟨h.nf.2.2.2.2.1, h.nf.2.2.2.2.2, h.offf⟩),
    h.its.only ho (fun b hs hd => by have e : b = B.blf := hs; have := h.dom b hd; omega), h.offn, h.offl, h.offf, h.offv, h.dom, by have := ho.size; omega, h.nn, h.nl, h.nf, h.ns⟩
theorem push (h : LMem w D base B depth M st v) {v' : Value} {its' : List Itm} (hl : At w1 B.bl 22 [v']) (ho : Only (fun b => b = B.bl ∨ v.ownBlock = some b) w.heap.size w w1) (hi : ItRow w1 D v' its') (hoff : ∀ k, v'.ownBlock = some k → MOff M k) : LMem w1 D base B depth M { st with items := its' } v' := by
  have h1 := h.ord
  have hn : ∀ b, b < base → b ≠ B.bl → ¬ (b = B.bl ∨ v.ownBlock = some b) := fun b hb h1 hs => hs.elim h1 (fun hs => by have := h.dom b (h.its.fresh b hs); omega)
  exact ⟨ho.at_ h.dep.lt (hn _ (by omega) (Ne.symm h.nl.1)) h.dep, ho.at_ h.nod.lt (hn _ (by omega) h.nn.2.2.1) h.nod, ho.at_ h.sv.lt (hn _ (by omega) (Ne.symm h.nl.2.1)) h.sv, hl, ho.at_ h.lf.lt (hn _ (by omega) (Ne.symm h.nl.2.2.1)) h.lf, ho.at_ h.gf.lt (hn _ (by omega) (Ne.symm h.nl.2.2.2.1)) h.gf, ho.at_ h.wf.lt (hn _ (by omega) (Ne.symm h.nl.2.2.2.2.1)) h.wf,
    h.hst.onlyOff ho (fun b hs => by
      rcases hs with hs | hs
      · subst hs; exact ⟨h.nl.2.2.2.2.2.1, h.nl.2.2.2.2.2.2, h.offl⟩
      · have := h.dom b (h.its.fresh b hs); exact ⟨by omega, by omega, h.offv b hs⟩),
    hi, h.offn, h.offl, h.offf, hoff, h.dom, by have := ho.size; omega, h.nn, h.nl, h.nf, h.ns⟩
end LMem
def slashB : ByteArray := ⟨#[47]⟩
def atP (p name : ByteArray) : ByteArray := if p.toList = [] then name else (p ++ slashB) ++ name
def rowL (dec : List UInt8 → Option (List Ent)) (depth : Int) : Nat → ByteArray → List Ent → Int → LSta → Option (Int × LSta)
  | 0, _, _, _, _ => none
  | f + 1, p, xs, deep, st =>
    if 0 ≤ deep ∧ deep < 1048576 ∧ st.nodes ≤ 4611686018427387904 ∧ 0 ≤ st.σ.gets ∧ st.σ.gets < 4611686018427387904 ∧ st.items.length < 1048576 ∧ p.size < 1048576 ∧ 0 ≤ st.left ∧ st.left < 1099511627776 then
      match xs with
      | [] => some (0, st)
      | x :: xs =>
        if x.kind = 2 then
          (match getR depth st.nodes st.σ x.dig (deep + 1) with
          | (e, b, n', σ') =>
            let st1 : LSta := { st with nodes := n', σ := σ', items := st.items ++ [⟨atP p x.name, true, []⟩] }
            if e = 0 then
              match dec b with
              | none => none
              | some ys =>
                match rowL dec depth f (atP p x.name) ys (deep + 1) st1 with
                | none => none
                | some (e2, st2) => if e2 = 0 then rowL dec depth f p xs deep st2 else some (e2, st2)
            else some (e, st1))
        else
          (match getR depth st.nodes st.σ x.dig (deep + 1) with
          | (e, b, n', σ') =>
            let st1 : LSta := { st with nodes := n', σ := σ' }
            if e = 0 then
              if st.left < (b.length : Int) then some (63, st1)
              else rowL dec depth f p xs deep { st1 with left := st.left - (b.length : Int), items := st.items ++ [⟨atP p x.name, false, b⟩] }
            else some (e, st1))
    else none
def DecOk (dec : List UInt8 → Option (List Ent)) : Prop := ∀ b xs, dec b = some xs → b = encL xs ∧ entsOk xs = true ∧ digsOk xs ∧ xs.length < 248 ∧ b.length ≤ 1048576
def walkL (dec : List UInt8 → Option (List Ent)) (depth : Int) (f : Nat) (p : ByteArray) (d : List UInt8) (deep : Int) (st : LSta) : Option (Int × LSta) :=
  match getR depth st.nodes st.σ d deep with
  | (e, b, n', σ') =>
    if e = 0 then
      match dec b with
      | none => none
      | some ys => rowL dec depth f p ys deep { st with nodes := n', σ := σ' }
    else some (e, { st with nodes := n', σ := σ' })
def LWalkOk (dec : List UInt8 → Option (List Ent)) (depth : Int) (f : Nat) : Prop := ∀ (w : World) (D : Nat → Prop) (base : Nat) (B : LBk) (M : MapF) (st : LSta) (v : Value) (p : ByteArray) (d : List UInt8) (deep : Int) (e : Int) (st' : LSta),
  LMem w D base B depth M st v → d.length = 32 → st.nodes ≤ 4611686018427387904 → 0 ≤ st.σ.gets ∧ st.σ.gets < 4611686018427387904 → walkL dec depth f p d deep st = some (e, st') →
  Calls Tryz.prog 86 #[.string p, digV d, .int .i64 deep, .pointer (some ⟨B.bg, 0, none⟩), .pointer (some ⟨B.bl, 0, none⟩), .pointer (some ⟨B.bw, 0, none⟩), .pointer (some ⟨B.blf, 0, none⟩)] w fun en w' =>
    en = .returned (.int .i64 e) ∧ ∃ v', LMem w' (fun b => D b ∨ w.heap.size ≤ b) base B depth M st' v' ∧ Only (WrL B v) w.heap.size w w' ∧ ∀ k, v'.ownBlock = some k → v.ownBlock = some k ∨ w.heap.size ≤ k
end Go.Proofs.YtbpfmlckddhgbaaGreatDoor
/- tree: what Load's walk keeps in its loop, step by step (no walk here). -/
namespace Go.Proofs.YtbpfmlckddhgbaaGreatDoor
set_option linter.unusedVariables false
open Go Go.RowKit Go.Maps Go.WideMaps
def DY (D : Nat → Prop) (n : Nat) (X : Nat → Prop) (b : Nat) : Prop := (D b ∨ n ≤ b) ∧ ¬ X b
structure LLp (w wr : World) (D : Nat → Prop) (base : Nat) (B : LBk) (depth : Int) (M : MapF) (v ve : Value) (ys : List Ent) (X : Nat → Prop) (st : LSta) (v1 : Value) : Prop where
  mem : LMem wr (DY D w.heap.size (fun b => ve.ownBlock = some b ∨ X b)) base B depth M st v1
  ents : OwnR wr 101 34 ve ys.length (eRow ys)
  efresh : ∀ k, ve.ownBlock = some k → w.heap.size ≤ k ∧ ¬ X k
  only : Only (WrL B v) w.heap.size w wr
  vown : ∀ k, v1.ownBlock = some k → v.ownBlock = some k ∨ w.heap.size ≤ k
  bn : base ≤ w.heap.size
  dom : ∀ b, D b → base ≤ b
namespace LLp
variable {w wr w1 : World} {D : Nat → Prop} {base : Nat} {B : LBk} {depth : Int} {M : MapF} {v ve : Value} {ys : List Ent} {X : Nat → Prop} {st : LSta} {v1 : Value}
theorem dy (h : LLp w wr D base B depth M v ve ys X st v1) {X' : Nat → Prop} : ∀ b, DY D w.heap.size X' b → base ≤ b := fun b hb => hb.1.elim (h.dom b) (fun h1 => Nat.le_trans h.bn h1)
theorem below (h : LLp w wr D base B depth M v ve ys X st v1) (ho : Below wr.heap.size wr w1) : LLp w w1 D base B depth M v ve ys X st v1 :=
  ⟨h.mem.below ho, h.ents.below' ho, h.efresh, h.only.trans ((Only.of_below ho).mono h.only.size (fun _ _ h => h)), h.vown, h.bn, h.dom⟩
theorem apart (h : LLp w wr D base B depth M v ve ys (fun _ => False) st v1) {b8 : Nat} (hb : wr.heap.size ≤ b8) : LLp w wr D base B depth M v ve ys (· = b8) st v1 :=
  ⟨h.mem.mono (fun b hb' hd => ⟨hd.1, fun hx => hx.elim (fun hx => hd.2 (Or.inl hx)) (fun hx => by omega)⟩) h.dy, h.ents, fun k hk => ⟨(h.efresh k hk).1, by have := h.ents.lt hk; omega⟩, h.only, h.vown, h.bn, h.dom⟩
theorem drop (h : LLp w wr D base B depth M v ve ys X st v1) : LLp w wr D base B depth M v ve ys (fun _ => False) st v1 :=
  ⟨h.mem.mono (fun b _ hd => ⟨hd.1, fun hx => hx.elim (fun hx => hd.2 (Or.inl hx)) id⟩) h.dy, h.ents, fun k hk => ⟨(h.efresh k hk).1, id⟩, h.only, h.vown, h.bn, h.dom⟩
theorem write (h : LLp w wr D base B depth M v ve ys X st v1) {b8 : Nat} (hX : X b8) (hb : w.heap.size ≤ b8) (hoff : MOff M b8) (ho : Only (· = b8) wr.heap.size wr w1) : LLp w w1 D base B depth M v ve ys X st v1 :=
  ⟨h.mem.only ho (fun b hs => by have e : b = b8 := hs; subst e; exact ⟨Nat.le_trans h.bn hb, fun hd => hd.2 (Or.inr hX), hoff⟩), h.ents.only ho (fun b hb' => ⟨h.ents.lt hb', fun e => by have e : b = b8 := e; subst e; exact (h.efresh b hb').2 hX⟩), h.efresh,
    h.only.trans (ho.mono h.only.size (fun b hb' hs => by have e : b = b8 := hs; omega)), h.vown, h.bn, h.dom⟩
theorem v1x (h : LLp w wr D base B depth M v ve ys X st v1) {k : Nat} (hk : v1.ownBlock = some k) : DY D w.heap.size (fun b => ve.ownBlock = some b ∨ X b) k ∧ k < wr.heap.size := ⟨h.mem.its.fresh k hk, h.mem.its.lt hk⟩
theorem eKeep (h : LLp w wr D base B depth M v ve ys X st v1) {S : Nat → Prop} (ho : Only S wr.heap.size wr w1) (hS : ∀ b, S b → WrL B v1 b) : OwnR w1 101 34 ve ys.length (eRow ys) := by
  refine h.ents.only ho (fun b hb => ⟨h.ents.lt hb, fun hs => ?_⟩)
  have h1 := h.mem.ord
  have h2 := (h.efresh b hb).1
  have h3 := h.bn
  rcases hS b hs with hs | hs | hs | hs | hs
  · omega
  · omega
  · omega
  · omega
  · exact (h.v1x hs).1.2 (Or.inl hb)
theorem onlyKeep (h : LLp w wr D base B depth M v ve ys X st v1) {S : Nat → Prop} (ho : Only S wr.heap.size wr w1) (hS : ∀ b, S b → WrL B v1 b) : Only (WrL B v) w.heap.size w w1 := by
  refine h.only.trans (ho.mono h.only.size (fun b hb' hs => ?_))
  rcases hS b hs with hs | hs | hs | hs | hs
  · exact Or.inl hs
  · exact Or.inr (Or.inl hs)
  · exact Or.inr (Or.inr (Or.inl hs))
  · exact Or.inr (Or.inr (Or.inr (Or.inl hs)))
  · rcases h.vown b hs with hv' | hv'
    · exact Or.inr (Or.inr (Or.inr (Or.inr hv')))
    · omega
theorem called (h : LLp w wr D base B depth M v ve ys X st v1) {st' : LSta} {v2 : Value} (hw : LMem w1 (fun b => DY D w.heap.size (fun b => ve.ownBlock = some b ∨ X b) b ∨ wr.heap.size ≤ b) base B depth M st' v2) (ho : Only (WrL B v1) wr.heap.size wr w1)
    (hv : ∀ k, v2.ownBlock = some k → v1.ownBlock = some k ∨ wr.heap.size ≤ k) (hX : ∀ b, X b → b < wr.heap.size) : LLp w w1 D base B depth M v ve ys X st' v2 := by
  have h4 := h.only.size
  refine ⟨hw.mono (fun b hb hd => ?_) h.dy, h.eKeep ho (fun _ h => h), h.efresh, h.onlyKeep ho (fun _ h => h), fun k hk => ?_, h.bn, h.dom⟩
  · rcases hd with hd | hd
    · exact hd
    · exact ⟨Or.inr (by omega), fun hx => hx.elim (fun e => by have := h.ents.lt e; omega) (fun hx => by have := hX b hx; omega)⟩
  · rcases hv k hk with hv' | hv'
    · exact h.vown k hv'
    · exact Or.inr (by omega)
theorem got (h : LLp w wr D base B depth M v ve ys X st v1) {σ' : Sto} {n' : Int} (hst : HSt w1 B.s B.bm σ' M) (hnod : At w1 B.bn 3 [.int .i64 n']) (ho : Only (fun b => b = B.bn ∨ b = B.s) wr.heap.size wr w1) : LLp w w1 D base B depth M v ve ys X { st with nodes := n', σ := σ' } v1 :=
  ⟨h.mem.got hst hnod ho, h.eKeep ho (fun b hs => hs.elim Or.inl (fun hs => Or.inr (Or.inl hs))), h.efresh, h.onlyKeep ho (fun b hs => hs.elim Or.inl (fun hs => Or.inr (Or.inl hs))), h.vown, h.bn, h.dom⟩
theorem setLeft (h : LLp w wr D base B depth M v ve ys X st v1) {l' : Int} (hl : At w1 B.blf 3 [.int .i64 l']) (ho : Only (· = B.blf) wr.heap.size wr w1) : LLp w w1 D base B depth M v ve ys X { st with left := l' } v1 :=
  ⟨h.mem.setLeft hl ho, h.eKeep ho (fun b hs => Or.inr (Or.inr (Or.inr (Or.inl hs)))), h.efresh, h.onlyKeep ho (fun b hs => Or.inr (Or.inr (Or.inr (Or.inl hs)))), h.vown, h.bn, h.dom⟩
theorem push (h : LLp w wr D base B depth M v ve ys X st v1) {w7 : World} {v' : Value} {x : Itm} {A : Option Addr} {c : Nat} {As : List (Option Addr × Nat)} (hAs : As.length = st.items.length) (hown : OwnR wr 50 3 v1 st.items.length (icellsL st.items As))
    (hinfo : ∀ (i : Nat) (x : Itm), st.items[i]? = some x → ∃ A c, As[i]? = some (A, c) ∧ x.data.length ≤ c ∧ (x.data ≠ [] → ∃ ad, A = some ad ∧ DY D w.heap.size (fun b => ve.ownBlock = some b ∨ X b) ad.block ∧ ad.block < wr.heap.size ∧ v1.ownBlock ≠ some ad.block ∧ ∀ k, k < x.data.length → wr.cell? (ad.add k) = some (bv (x.data.getD k 0))))
    (hv1 : OwnR w7 50 3 v' (st.items.length + 1) (icellsL st.items As ++ icells x A c)) (hc : x.data.length ≤ c) (hO : Only (fun b => v1.ownBlock = some b) wr.heap.size wr w7) (hq : v'.ownBlock = v1.ownBlock ∨ v'.ownBlock = some wr.heap.size)
    (hr : x.data ≠ [] → ∃ ad, A = some ad ∧ DY D w.heap.size (fun b => ve.ownBlock = some b ∨ X b) ad.block ∧ ad.block < wr.heap.size ∧ v1.ownBlock ≠ some ad.block ∧ ∀ k, k < x.data.length → wr.cell? (ad.add k) = some (bv (x.data.getD k 0)))
    (hl : At w1 B.bl 22 [v']) (ho : Only (· = B.bl) w7.heap.size w7 w1) (hX : ∀ b, X b → b < wr.heap.size) (hoff : MOff M wr.heap.size) : LLp w w1 D base B depth M v ve ys X { st with items := st.items ++ [x] } v' := by
  have h4 := h.only.size
  have hD : DY D w.heap.size (fun b => ve.ownBlock = some b ∨ X b) wr.heap.size := ⟨Or.inr h4, fun hx => hx.elim (fun e => by have := h.ents.lt e; omega) (fun hx => by have := hX _ hx; omega)⟩
  have hi7 : ItRow w7 (DY D w.heap.size (fun b => ve.ownBlock = some b ∨ X b)) v' (st.items ++ [x]) := h.mem.its.snoc hAs hown hinfo hv1 hc hO (by rcases hq with hq | hq; exact Or.inl hq; exact Or.inr ⟨_, hq, Nat.le_refl _, hD⟩) hr
  have hi1 : ItRow w1 (DY D w.heap.size (fun b => ve.ownBlock = some b ∨ X b)) v' (st.items ++ [x]) := hi7.only ho (fun b hs hd => by have e : b = B.bl := hs; have h1 := h.mem.ord; have := h.dy b hd; omega)
  have hall : Only (fun b => b = B.bl ∨ v1.ownBlock = some b) wr.heap.size wr w1 := (hO.mono (Nat.le_refl _) (fun _ _ h => Or.inr h)).trans (ho.mono hO.size (fun _ _ h => Or.inl h))
  have hsub : ∀ b, (b = B.bl ∨ v1.ownBlock = some b) → WrL B v1 b := fun b hs => hs.elim (fun hs => Or.inr (Or.inr (Or.inl hs))) (fun hs => Or.inr (Or.inr (Or.inr (Or.inr hs))))
  refine ⟨h.mem.push hl hall hi1 (fun k hk => ?_), h.eKeep hall hsub, h.efresh, h.onlyKeep hall hsub, fun k hk => ?_, h.bn, h.dom⟩
  · rcases hq with hq | hq
    · rw [hq] at hk; exact h.mem.offv k hk
    · rw [hq] at hk; injection hk with hk; rw [← hk]; exact hoff
  · rcases hq with hq | hq
    · rw [hq] at hk; exact h.vown k hk
    · rw [hq] at hk; injection hk with hk; exact Or.inr (by omega)
end LLp
end Go.Proofs.YtbpfmlckddhgbaaGreatDoor
/- tree: Load's inner function walk. -/
namespace Go.Proofs.YtbpfmlckddhgbaaGreatDoor
set_option linter.unusedVariables false
set_option linter.unusedSimpArgs false
open Go Go.RowKit Go.Maps Go.WideMaps Go.Proofs.YtbpfmlckddhgbaaGreatDoorW.PrintWords Go.Proofs.YtbpfmlckddhgbaaGreatDoorW.PrintLast
theorem info50b : (Tryz.prog.info? 50).map (fun i => (i.zero, i.size, i.bytes)) = some (some (.agg #[.string ⟨#[]⟩, .bool false, .slice none 0 0]), 3, 48) := by kernel_rfl
theorem run_cat (w : World) (a b : ByteArray) (h : a.size + b.size ≤ maxLen) : (binOp .add 9 (.string a) (.string b)).run Tryz.prog w = .ok (.string (a ++ b)) w := by
  have h1 : ¬ (((a.size + b.size : Nat) : Int) > IntKind.i64.max) := by
    have e : IntKind.i64.max = (maxLen : Int) := by decide
    rw [e]; omega
  simp only [binOp, Op.stringOp, if_neg h1]
  rfl
theorem size22 : (Tryz.prog.info? 22).map (·.size) = some 1 := by kernel_rfl
set_option maxRecDepth 8000 in
set_option maxHeartbeats 4000000 in
theorem lwalk_ok (dec : List UInt8 → Option (List Ent)) (hdec : DecOk dec) (depth : Int) : ∀ f, LWalkOk dec depth f := by
  intro f
  induction f using Nat.strongRecOn with
  | ind f ih =>
  intro w D base B M st v p d deep eF stF hW hd hnb hgb hM
  have IH := Aside0.mk ih
  have HW := Aside0.mk hW
  have HD := Aside0.mk hd
  have HDEC := Aside0.mk hdec
  have HGB := Aside0.mk hgb
  obtain ⟨dv, hdv⟩ : ∃ dv, dv = digV d := ⟨_, rfl⟩
  rw [← hdv]
  have DV := Aside0.mk hdv
  rcases hg : getR depth st.nodes st.σ d deep with ⟨e1, b1, n1, σ1⟩
  unfold walkL at hM
  rw [hg] at hM
  simp only at hM
  have GR := Aside0.mk hg
  clear ih hW hd hgb hdv hg hdec
  by_cases he : e1 = 0
  · subst he
    rw [if_pos rfl] at hM
    split at hM
    case h_1 => exact absurd hM (by simp)
    case h_2 ys hys =>
    have DC := Aside0.mk hys
    have HM := Aside0.mk hM
    clear hM hys
    go_enter Tryz.func86, Tryz.ntmps86
    go_wp2_with (first
      | (refine arm_box rfl 27 _ rfl (d.map bv) DV.out ?_; intro W8 b8 hb hWW
         have hB : Below w.heap.size w W8 := by subst hWW; exact (Below.refl _ _).alloc (Nat.le_refl _) _
         have hN : At W8 b8 27 (d.map bv) := by subst hWW hb; exact At.new _ _ _
         have M8 := Aside0.mk (HW.out.below hB)
         have kg : W8.cell? ⟨B.bg, 0, none⟩ = some (.func (.func 84) #[] #[.pointer (some ⟨B.bd, 0, none⟩), .pointer (some ⟨B.bn, 0, none⟩), .pointer (some ⟨B.bsv, 0, none⟩)]) := by rw [M8.out.gf.cell]; rfl
         have N8 := Aside0.mk hN
         have B8 := Aside0.mk hB
         clear hb hWW hB hN)
      | (refine arm_load_row rfl 27 _ rfl b8 0 rfl (d.map bv) N8.out.rangeAll (by kernel_rfl) (by rw [List.length_map, HD.out]; exact size27) ?_
         intro v22 hv0
         have hv : v22 = dv := hv0.trans DV.out.symm
         clear hv0
         subst v22)
      | (go_at_call 84
         have hcall := lget_calls W8 B.bd B.bn B.bsv B.s B.bm depth st.nodes deep st.σ M d M8.out.dep M8.out.nod M8.out.sv M8.out.hst M8.out.offn ⟨M8.out.nn.2.2.2.2.2.2.1, M8.out.nn.2.2.2.2.2.2.2, M8.out.nn.2.1, M8.out.nn.1⟩ HD.out HGB.out hnb
         rw [GR.out, ← DV.out] at hcall
         refine hcall.mono ?_
         rintro e w9 ⟨v9, rfl, hv1, hv2, hH9, hn9, hO9⟩
         obtain ⟨A9, c9, hv9, hc9, hr9, _⟩ := hv1.rdl
         subst hv9
         have R9 := Aside0.mk hr9
         have M9 := Aside0.mk (M8.out.got hH9 hn9 hO9)
         have O9 := Aside0.mk (show Only (WrL B v) w.heap.size w w9 from (Only.of_below B8.out).trans (hO9.mono B8.out.size (fun b _ hs => hs.elim Or.inl (fun hs => Or.inr (Or.inl hs)))))
         clear hcall hv1 hv2 hH9 hn9 hO9 hr9 kg)
      | (go_at_call 87
         have hq := HDEC.out b1 ys DC.out
         refine (decode_calls w9 A9 c9 b1 ys R9.out hq.1 hq.2.1 hq.2.2.1 hq.2.2.2.1 hq.2.2.2.2).mono ?_
         rintro e w10 ⟨ve, rfl, hown, hfr, hB⟩
         have L10 : Aside0 (LLp w w10 D base B depth M v ve ys (fun _ => False) { st with nodes := n1, σ := σ1 } v) := ⟨⟨(M9.out.mono (D' := DY D w.heap.size (fun b => ve.ownBlock = some b ∨ False)) (fun b hb hd => ⟨Or.inl hd, fun hx => hx.elim (fun e => by have := hfr b e; omega) id⟩) (fun b hb => hb.1.elim (HW.out.dom b) (fun h1 => Nat.le_trans HW.out.ord.2.2.2.2.2.2.2.2.2 h1))).below hB, hown, fun k hk => ⟨Nat.le_trans O9.out.size (hfr k hk), id⟩, O9.out.trans ((Only.of_below hB).mono O9.out.size (fun _ _ h => h)), fun k hk => Or.inl hk, HW.out.ord.2.2.2.2.2.2.2.2.2, HW.out.dom⟩⟩
         have DG := Aside0.mk hq.2.2.1
         have hyl : ys.length < 248 := hq.2.2.2.1
         have NMS := Aside0.mk (show ∀ x ∈ ys, isName x.name = true from fun x hx => (entsOk_all hq.2.1 x hx).2)
         obtain ⟨Ae, ce, hve, _⟩ := hown.shape
         subst hve
         clear hq hown hfr hB)
      | fail)
    go_loopg [40] ys.length (fun g i wr => ∃ (k n : Nat) (stk : LSta) (v1 : Value), Aside0 (k + g = ys.length) ∧ i = .int .i64 k ∧ Aside0 (n ≤ f) ∧ Aside0 (rowL dec depth n p (ys.drop k) deep stk = some (eF, stF)) ∧ Aside0 (LLp w wr D base B depth M v (.slice Ae ys.length ce) ys (fun _ => False) stk v1))
    case atStart => exact ⟨0, f, _, v, ⟨by omega⟩, rfl, ⟨Nat.le_refl _⟩, ⟨HM.out⟩, L10⟩
    case round =>
      obtain ⟨k, n, stk, v1, HJ, rfl, HN, HR, HS⟩ := hrel
      obtain ⟨n', rfl⟩ : ∃ n', n = n' + 1 := by
        cases n with
        | zero => exact absurd HR.out (by simp [rowL])
        | succ n => exact ⟨n, rfl⟩
      have hr := HR.out
      unfold rowL at hr
      split at hr
      case isFalse => exact absurd hr (by simp)
      case isTrue hb =>
      have HBD := Aside0.mk hb
      have hdp : 0 ≤ deep ∧ deep < 1048576 := ⟨hb.1, hb.2.1⟩
      have hnb2 : stk.nodes ≤ 4611686018427387904 := hb.2.2.1
      have hlb : 0 ≤ stk.left ∧ stk.left < 1099511627776 := hb.2.2.2.2.2.2.2
      clear hb
      by_cases hlt : k < ys.length
      · obtain ⟨x, hx⟩ : ∃ x, ys[k]? = some x := ⟨_, List.getElem?_eq_getElem hlt⟩
        rw [List.drop_eq_getElem_cons hlt, (List.getElem?_eq_some_iff.1 hx).2] at hr
        simp only at hr
        obtain ⟨A1, c1, e1', _, _, r1⟩ := HS.out.ents.shape
        obtain ⟨ge, hge, hgo, hglt, hrow⟩ := r1 (by omega)
        injection e1' with e2 _ e3
        rw [hge] at e2
        subst e2 e3
        have hrowx := eRow_at hrow DG.out hx
        have XD := Aside0.mk (DG.out x (List.mem_of_getElem? hx))
        have ROW := Aside0.mk hrowx
        have HX := Aside0.mk hx
        have hns : x.name.size ≤ 64 := by rw [ba_size]; exact isName_len (NMS.out x (List.mem_of_getElem? hx))
        obtain ⟨xd, hxd⟩ : ∃ xd, xd = digV x.dig := ⟨_, rfl⟩
        have XV := Aside0.mk hxd
        obtain ⟨nm, hnm⟩ : ∃ nm, nm = x.name := ⟨_, rfl⟩
        obtain ⟨at_, hat⟩ : ∃ at_, at_ = atP p nm := ⟨_, rfl⟩
        rw [← hnm] at hns
        rw [← hnm, ← hat] at hr
        have hps : p.size < 1048576 := HBD.out.2.2.2.2.2.2.1
        rcases hg2 : getR depth stk.nodes stk.σ x.dig (deep + 1) with ⟨e2, b2, n2, σ2⟩
        rw [hg2] at hr
        simp only at hr
        have GX := Aside0.mk hg2
        clear hg2
        have NMX := Aside0.mk hnm
        have ATX := Aside0.mk hat
        clear r1 hge hgo hglt hrow hrowx hx hxd hnm hat
        by_cases hkind : x.kind = 2
        · rw [if_pos hkind] at hr
          have KX := Aside0.mk hkind
          obtain ⟨e3, st3, hwl, hr2⟩ : ∃ e3 st3, walkL dec depth n' at_ x.dig (deep + 1) { stk with items := stk.items ++ [⟨at_, true, []⟩] } = some (e3, st3) ∧ (if e3 = 0 then rowL dec depth n' p (ys.drop (k + 1)) deep st3 else some (e3, st3)) = some (eF, stF) := by
            unfold walkL
            simp only [GX.out]
            by_cases he : e2 = 0
            · rw [if_pos he] at hr ⊢
              split at hr
              · exact absurd hr (by simp)
              · rename_i ys2 hy2
                split at hr
                · exact absurd hr (by simp)
                · rename_i e4 st4 h4
                  exact ⟨e4, st4, h4, hr⟩
            · rw [if_neg he] at hr ⊢
              exact ⟨e2, _, rfl, by rw [if_neg he]; exact hr⟩
          have WL := Aside0.mk hwl
          clear hwl hkind hr
          by_cases he3 : e3 = 0
          · subst he3
            rw [if_pos rfl] at hr2
            have R2 := Aside0.mk hr2
            clear hr2
            by_cases hp : p.toList = []
            · have hp1 : (p.toList == []) = true := by rw [hp]; rfl
              have hat : at_ = nm := by rw [ATX.out]; unfold atP; rw [if_pos hp]
              subst hat
              clear hp
              go_wp2_with (first
                  | (refine arm_load_row rfl 101 _ rfl ge (k * 34) rfl (ecells x) ROW.out row101 (by rw [ecells_len XD.out]; exact size101) ?_
                     intro v43 hv
                     have V43 := Aside0.mk hv
                     clear hv)
                  | (refine arm_alloc rfl 101 rfl _ _ info101 ?_; intro W15 b15 hb hWW
                     have hN : At W15 b15 101 (ecells ⟨ByteArray.empty, 0, zeroD⟩) := by subst hWW hb; exact At.new _ _ _
                     have hBB : Below wr.heap.size wr W15 := by subst hWW; exact (Below.refl _ _).alloc (Nat.le_refl _) _
                     have F15 := Aside0.mk (HS.out.mem.hst.off (b := b15) (by omega))
                     have L15 := Aside0.mk (show w.heap.size ≤ b15 ∧ wr.heap.size ≤ b15 from ⟨by rw [hb]; exact HS.out.only.size, by omega⟩)
                     have S15 := Aside0.mk ((HS.out.apart L15.out.2).below hBB)
                     have N15 := Aside0.mk hN
                     clear hN hb hWW hBB)
                  | (refine arm_store_row rfl 101 _ _ rfl b15 101 _ (ecells x) rfl V43.out N15.out (by rw [ecells_len XD.out]; rfl) (by rw [ecells_len XD.out]; exact size101) (one_ecells x) ?_
                     intro W16 hWW
                     have hO : Only (· = b15) W15.heap.size W15 W16 := by subst hWW; exact Only.setRow (S := (· = b15)) (Only.refl _ _ _) (.inl rfl) _
                     have hN : At W16 b15 101 (ecells x) := by subst hWW; exact N15.out.setRow _
                     have kn : W16.cell? ⟨b15, 0, none⟩ = some (.string at_) := by rw [hN.cell, NMX.out]; rfl
                     have kk : W16.cell? ⟨b15, 1, none⟩ = some (.int .i64 2) := by rw [hN.cell, ← KX.out]; rfl
                     have S16 := Aside0.mk (S15.out.write rfl L15.out.1 F15.out hO)
                     have kl : W16.cell? ⟨B.bl, 0, none⟩ = some v1 := by rw [S16.out.mem.lv.cell]; rfl
                     have kg0 : W16.cell? ⟨B.bg, 0, none⟩ = some (.func (.func 84) #[] #[.pointer (some ⟨B.bd, 0, none⟩), .pointer (some ⟨B.bn, 0, none⟩), .pointer (some ⟨B.bsv, 0, none⟩)]) := by rw [S16.out.mem.gf.cell]; rfl
                     have DN := Aside0.mk hN
                     have V1X := Aside0.mk (show ∀ k, v1.ownBlock = some k → k ≠ b15 from fun k hk e => (S16.out.v1x hk).1.2 (Or.inr e))
                     have L16 := Aside0.mk (show b15 < W16.heap.size from hN.lt)
                     have D16 := Aside0.mk S16.out.drop
                     have IC := Aside0.mk (show icells ⟨at_, true, []⟩ none 0 = [.string at_, .bool true, .slice none 0 0] by unfold icells; rfl)
                     clear hWW hO hN)
                  | (refine arm_build rfl 50 _ rfl [.string at_, .bool true, .slice none 0 0] (by as_aux_lemma => kernel_rfl) ?_
                     intro v94 hv
                     have V94 := Aside0.mk hv
                     clear hv)
                  | (refine arm_slice1 rfl 22 50 _ rfl _ 3 [.string at_, .bool true, .slice none 0 0] v94 rfl (by rw [V94.out]; rfl) tu22 info50 (by decide) (by decide) rfl ?_
                     intro W19 b19 hb hWW
                     have hBB : Below W16.heap.size W16 W19 := by subst hWW; exact (Below.refl _ _).alloc (Nat.le_refl _) _
                     have A19 := Aside0.mk (show At W19 b19 50 (icells ⟨at_, true, []⟩ none 0) by rw [IC.out]; subst hWW hb; exact At.new _ _ _)
                     have S19 := Aside0.mk (D16.out.below hBB)
                     have B19 := Aside0.mk hBB
                     clear hb hWW hBB)
                  | (have G := S19.out.mem.its.row
                     obtain ⟨As, hAs, hown, hinfo⟩ := G
                     refine arm_appendR rfl _ _ 22 50 rfl _ 3 48 tu22 info50b rfl (by decide) v1 stk.items.length (icellsL stk.items As) (icells ⟨at_, true, []⟩ none 0) rfl hown ⟨b19, 0, none⟩ 1 1 rfl rfl (fun i u hu => by rw [Addr.add_mid, A19.out.cell, Nat.zero_add]; exact hu) (one_icells _ _ _) (by have := HBD.out.2.2.2.2.2.1; show (stk.items.length + 1) * 48 ≤ _; omega) (by have := HBD.out.2.2.2.2.2.1; show stk.items.length + 1 ≤ _; omega) ?_
                     intro v20 W20 hV hO hq
                     have AS := Aside0.mk (And.intro hAs (And.intro hown hinfo))
                     have V20 := Aside0.mk hV
                     have O20 := Aside0.mk hO
                     have Q20 := Aside0.mk hq
                     have L20 := Aside0.mk (show At W20 B.bl 22 [v1] from hO.at_ S19.out.mem.lv.lt (fun h => by have h1 := S19.out.dy _ (S19.out.mem.its.fresh _ h); have h2 := S19.out.mem.ord; omega) S19.out.mem.lv)
                     have DN20 := Aside0.mk (show At W20 b15 101 (ecells x) from hO.at_ (Nat.lt_of_lt_of_le L16.out B19.out.size) (fun h => V1X.out b15 h rfl) (DN.out.below B19.out DN.out.lt))
                     have OV20 := Aside0.mk (show v20.oneCell' = true by obtain ⟨A', c', hv, _⟩ := hV.shape; rw [hv]; rfl)
                     clear hAs hown hinfo hV hO hq)
                  | (refine arm_store1 rfl 22 _ _ rfl ⟨B.bl, 0, none⟩ rfl v20 rfl v1 (by rw [L20.out.cell]; rfl) (L20.out.frozen 0) size22 rfl OV20.out ?_
                     intro W21 hWW
                     have hO : Only (· = B.bl) W20.heap.size W20 W21 := by subst hWW; exact Only.setCell (S := (· = B.bl)) (a := ⟨B.bl, 0, none⟩) (Only.refl _ _ _) (.inl rfl) _
                     have hL : At W21 B.bl 22 [v20] := by subst hWW; exact L20.out.setCell 0 _
                     have S21 := Aside0.mk (S19.out.push (x := ⟨at_, true, []⟩) AS.out.1 AS.out.2.1 AS.out.2.2 V20.out (Nat.zero_le _) O20.out Q20.out (fun hne => absurd rfl hne) hL hO (fun _ h => h.elim) (S19.out.mem.hst.off (Nat.le_refl _)))
                     have DN := Aside0.mk (show At W21 b15 101 (ecells x) from hO.at_ DN20.out.lt (by have h1 := S19.out.mem.ord; have h2 := L15.out.1; have h3 := S19.out.bn; omega) DN20.out)
                     have kw : W21.cell? ⟨B.bw, 0, none⟩ = some (.func (.func 86) #[] #[.pointer (some ⟨B.bg, 0, none⟩), .pointer (some ⟨B.bl, 0, none⟩), .pointer (some ⟨B.bw, 0, none⟩), .pointer (some ⟨B.blf, 0, none⟩)]) := by rw [S21.out.mem.wf.cell]; rfl
                     clear hWW hO hL)
                  | (refine arm_load_row rfl 27 _ rfl b15 2 rfl (x.dig.map bv) (DN.out.rangeAt_eq 2 rfl) (by kernel_rfl) (by rw [List.length_map, XD.out]; exact size27) ?_
                     intro v74 hv0
                     have hv : v74 = xd := hv0.trans XV.out.symm
                     clear hv0
                     subst v74)
                  | (go_at_call 86
                     have hcall := IH.out n' (by have := HN.out; omega) W21 _ base B M { stk with items := stk.items ++ [⟨at_, true, []⟩] } v20 at_ x.dig (deep + 1) 0 st3 S21.out.mem XD.out hnb2 ⟨HBD.out.2.2.2.1, HBD.out.2.2.2.2.1⟩ WL.out
                     rw [← XV.out] at hcall
                     refine hcall.mono ?_
                     rintro e w22 ⟨rfl, v22, hm22, hO22, hv22⟩
                     have S22 := Aside0.mk (S21.out.called hm22 hO22 hv22 (fun _ h => h.elim))
                     clear hcall hm22 hO22 hv22)
                  | fail)
              go_roundg (ys.length - (k + 1))
              case measure => have := HJ.out; omega
              case rel => exact ⟨k + 1, n', _, v22, ⟨by have := HJ.out; omega⟩, by go_num, ⟨by have := HN.out; omega⟩, R2, S22⟩
            · have hp1 : (p.toList == []) = false := beq_eq_false_iff_ne.2 hp
              have HAT := Aside0.mk (show at_ = p ++ ⟨#[47]⟩ ++ nm by rw [ATX.out]; unfold atP; rw [if_neg hp]; rfl)
              have hcat1 : ∀ w, (binOp .add 9 (.string p) (.string ⟨#[47]⟩)).run Tryz.prog w = .ok (.string (p ++ ⟨#[47]⟩)) w := fun w => run_cat w p ⟨#[47]⟩ (by show p.size + 1 ≤ maxLen; unfold maxLen; omega)
              have hcat2 : ∀ w, (binOp .add 9 (.string (p ++ ⟨#[47]⟩)) (.string nm)).run Tryz.prog w = .ok (.string (p ++ ⟨#[47]⟩ ++ nm)) w := fun w => by
                have hz : (p ++ (⟨#[47]⟩ : ByteArray)).size = p.size + 1 := by rw [ByteArray.size_append]; rfl
                exact run_cat w (p ++ ⟨#[47]⟩) nm (by rw [hz]; unfold maxLen; omega)
              clear hp
              go_wp2_with (first
                  | (refine arm_load_row rfl 101 _ rfl ge (k * 34) rfl (ecells x) ROW.out row101 (by rw [ecells_len XD.out]; exact size101) ?_
                     intro v43 hv
                     have V43 := Aside0.mk hv
                     clear hv)
                  | (refine arm_alloc rfl 101 rfl _ _ info101 ?_; intro W15 b15 hb hWW
                     have hN : At W15 b15 101 (ecells ⟨ByteArray.empty, 0, zeroD⟩) := by subst hWW hb; exact At.new _ _ _
                     have hBB : Below wr.heap.size wr W15 := by subst hWW; exact (Below.refl _ _).alloc (Nat.le_refl _) _
                     have F15 := Aside0.mk (HS.out.mem.hst.off (b := b15) (by omega))
                     have L15 := Aside0.mk (show w.heap.size ≤ b15 ∧ wr.heap.size ≤ b15 from ⟨by rw [hb]; exact HS.out.only.size, by omega⟩)
                     have S15 := Aside0.mk ((HS.out.apart L15.out.2).below hBB)
                     have N15 := Aside0.mk hN
                     clear hN hb hWW hBB)
                  | (refine arm_store_row rfl 101 _ _ rfl b15 101 _ (ecells x) rfl V43.out N15.out (by rw [ecells_len XD.out]; rfl) (by rw [ecells_len XD.out]; exact size101) (one_ecells x) ?_
                     intro W16 hWW
                     have hO : Only (· = b15) W15.heap.size W15 W16 := by subst hWW; exact Only.setRow (S := (· = b15)) (Only.refl _ _ _) (.inl rfl) _
                     have hN : At W16 b15 101 (ecells x) := by subst hWW; exact N15.out.setRow _
                     have kn : W16.cell? ⟨b15, 0, none⟩ = some (.string nm) := by rw [hN.cell, NMX.out]; rfl
                     have kk : W16.cell? ⟨b15, 1, none⟩ = some (.int .i64 2) := by rw [hN.cell, ← KX.out]; rfl
                     have S16 := Aside0.mk (S15.out.write rfl L15.out.1 F15.out hO)
                     have kl : W16.cell? ⟨B.bl, 0, none⟩ = some v1 := by rw [S16.out.mem.lv.cell]; rfl
                     have kg0 : W16.cell? ⟨B.bg, 0, none⟩ = some (.func (.func 84) #[] #[.pointer (some ⟨B.bd, 0, none⟩), .pointer (some ⟨B.bn, 0, none⟩), .pointer (some ⟨B.bsv, 0, none⟩)]) := by rw [S16.out.mem.gf.cell]; rfl
                     have DN := Aside0.mk hN
                     have V1X := Aside0.mk (show ∀ k, v1.ownBlock = some k → k ≠ b15 from fun k hk e => (S16.out.v1x hk).1.2 (Or.inr e))
                     have L16 := Aside0.mk (show b15 < W16.heap.size from hN.lt)
                     have D16 := Aside0.mk S16.out.drop
                     have IC := Aside0.mk (show icells ⟨at_, true, []⟩ none 0 = [.string (p ++ ⟨#[47]⟩ ++ nm), .bool true, .slice none 0 0] by unfold icells; rw [HAT.out]; rfl)
                     clear hWW hO hN)
                  | (refine arm_build rfl 50 _ rfl [.string (p ++ ⟨#[47]⟩ ++ nm), .bool true, .slice none 0 0] (by as_aux_lemma => kernel_rfl) ?_
                     intro v94 hv
                     have V94 := Aside0.mk hv
                     clear hv)
                  | (refine arm_slice1 rfl 22 50 _ rfl _ 3 [.string (p ++ ⟨#[47]⟩ ++ nm), .bool true, .slice none 0 0] v94 rfl (by rw [V94.out]; rfl) tu22 info50 (by decide) (by decide) rfl ?_
                     intro W19 b19 hb hWW
                     have hBB : Below W16.heap.size W16 W19 := by subst hWW; exact (Below.refl _ _).alloc (Nat.le_refl _) _
                     have A19 := Aside0.mk (show At W19 b19 50 (icells ⟨at_, true, []⟩ none 0) by rw [IC.out]; subst hWW hb; exact At.new _ _ _)
                     have S19 := Aside0.mk (D16.out.below hBB)
                     have B19 := Aside0.mk hBB
                     clear hb hWW hBB)
                  | (have G := S19.out.mem.its.row
                     obtain ⟨As, hAs, hown, hinfo⟩ := G
                     refine arm_appendR rfl _ _ 22 50 rfl _ 3 48 tu22 info50b rfl (by decide) v1 stk.items.length (icellsL stk.items As) (icells ⟨at_, true, []⟩ none 0) rfl hown ⟨b19, 0, none⟩ 1 1 rfl rfl (fun i u hu => by rw [Addr.add_mid, A19.out.cell, Nat.zero_add]; exact hu) (one_icells _ _ _) (by have := HBD.out.2.2.2.2.2.1; show (stk.items.length + 1) * 48 ≤ _; omega) (by have := HBD.out.2.2.2.2.2.1; show stk.items.length + 1 ≤ _; omega) ?_
                     intro v20 W20 hV hO hq
                     have AS := Aside0.mk (And.intro hAs (And.intro hown hinfo))
                     have V20 := Aside0.mk hV
                     have O20 := Aside0.mk hO
                     have Q20 := Aside0.mk hq
                     have L20 := Aside0.mk (show At W20 B.bl 22 [v1] from hO.at_ S19.out.mem.lv.lt (fun h => by have h1 := S19.out.dy _ (S19.out.mem.its.fresh _ h); have h2 := S19.out.mem.ord; omega) S19.out.mem.lv)
                     have DN20 := Aside0.mk (show At W20 b15 101 (ecells x) from hO.at_ (Nat.lt_of_lt_of_le L16.out B19.out.size) (fun h => V1X.out b15 h rfl) (DN.out.below B19.out DN.out.lt))
                     have OV20 := Aside0.mk (show v20.oneCell' = true by obtain ⟨A', c', hv, _⟩ := hV.shape; rw [hv]; rfl)
                     clear hAs hown hinfo hV hO hq)
                  | (refine arm_store1 rfl 22 _ _ rfl ⟨B.bl, 0, none⟩ rfl v20 rfl v1 (by rw [L20.out.cell]; rfl) (L20.out.frozen 0) size22 rfl OV20.out ?_
                     intro W21 hWW
                     have hO : Only (· = B.bl) W20.heap.size W20 W21 := by subst hWW; exact Only.setCell (S := (· = B.bl)) (a := ⟨B.bl, 0, none⟩) (Only.refl _ _ _) (.inl rfl) _
                     have hL : At W21 B.bl 22 [v20] := by subst hWW; exact L20.out.setCell 0 _
                     have S21 := Aside0.mk (S19.out.push (x := ⟨at_, true, []⟩) AS.out.1 AS.out.2.1 AS.out.2.2 V20.out (Nat.zero_le _) O20.out Q20.out (fun hne => absurd rfl hne) hL hO (fun _ h => h.elim) (S19.out.mem.hst.off (Nat.le_refl _)))
                     have DN := Aside0.mk (show At W21 b15 101 (ecells x) from hO.at_ DN20.out.lt (by have h1 := S19.out.mem.ord; have h2 := L15.out.1; have h3 := S19.out.bn; omega) DN20.out)
                     have kw : W21.cell? ⟨B.bw, 0, none⟩ = some (.func (.func 86) #[] #[.pointer (some ⟨B.bg, 0, none⟩), .pointer (some ⟨B.bl, 0, none⟩), .pointer (some ⟨B.bw, 0, none⟩), .pointer (some ⟨B.blf, 0, none⟩)]) := by rw [S21.out.mem.wf.cell]; rfl
                     clear hWW hO hL)
                  | (refine arm_load_row rfl 27 _ rfl b15 2 rfl (x.dig.map bv) (DN.out.rangeAt_eq 2 rfl) (by kernel_rfl) (by rw [List.length_map, XD.out]; exact size27) ?_
                     intro v74 hv0
                     have hv : v74 = xd := hv0.trans XV.out.symm
                     clear hv0
                     subst v74)
                  | (go_at_call 86
                     have hcall := IH.out n' (by have := HN.out; omega) W21 _ base B M { stk with items := stk.items ++ [⟨at_, true, []⟩] } v20 at_ x.dig (deep + 1) 0 st3 S21.out.mem XD.out hnb2 ⟨HBD.out.2.2.2.1, HBD.out.2.2.2.2.1⟩ WL.out
                     rw [← XV.out, show at_ = p ++ ⟨#[47]⟩ ++ nm from HAT.out] at hcall
                     refine hcall.mono ?_
                     rintro e w22 ⟨rfl, v22, hm22, hO22, hv22⟩
                     have S22 := Aside0.mk (S21.out.called hm22 hO22 hv22 (fun _ h => h.elim))
                     clear hcall hm22 hO22 hv22)
                  | fail)
              go_roundg (ys.length - (k + 1))
              case measure => have := HJ.out; omega
              case rel => exact ⟨k + 1, n', _, v22, ⟨by have := HJ.out; omega⟩, by go_num, ⟨by have := HN.out; omega⟩, R2, S22⟩
          · rw [if_neg he3] at hr2
            simp only [Option.some.injEq, Prod.mk.injEq] at hr2
            have he31 : (e3 == 0) = false := beq_eq_false_iff_ne.2 he3
            have he32 : (e3 != 0) = true := by rw [bne, he31]; rfl
            have EQ := Aside0.mk hr2
            clear hr2
            by_cases hp : p.toList = []
            · have hp1 : (p.toList == []) = true := by rw [hp]; rfl
              have hat : at_ = nm := by rw [ATX.out]; unfold atP; rw [if_pos hp]
              subst hat
              clear hp
              go_wp2_with (first
                  | (refine arm_load_row rfl 101 _ rfl ge (k * 34) rfl (ecells x) ROW.out row101 (by rw [ecells_len XD.out]; exact size101) ?_
                     intro v43 hv
                     have V43 := Aside0.mk hv
                     clear hv)
                  | (refine arm_alloc rfl 101 rfl _ _ info101 ?_; intro W15 b15 hb hWW
                     have hN : At W15 b15 101 (ecells ⟨ByteArray.empty, 0, zeroD⟩) := by subst hWW hb; exact At.new _ _ _
                     have hBB : Below wr.heap.size wr W15 := by subst hWW; exact (Below.refl _ _).alloc (Nat.le_refl _) _
                     have F15 := Aside0.mk (HS.out.mem.hst.off (b := b15) (by omega))
                     have L15 := Aside0.mk (show w.heap.size ≤ b15 ∧ wr.heap.size ≤ b15 from ⟨by rw [hb]; exact HS.out.only.size, by omega⟩)
                     have S15 := Aside0.mk ((HS.out.apart L15.out.2).below hBB)
                     have N15 := Aside0.mk hN
                     clear hN hb hWW hBB)
                  | (refine arm_store_row rfl 101 _ _ rfl b15 101 _ (ecells x) rfl V43.out N15.out (by rw [ecells_len XD.out]; rfl) (by rw [ecells_len XD.out]; exact size101) (one_ecells x) ?_
                     intro W16 hWW
                     have hO : Only (· = b15) W15.heap.size W15 W16 := by subst hWW; exact Only.setRow (S := (· = b15)) (Only.refl _ _ _) (.inl rfl) _
                     have hN : At W16 b15 101 (ecells x) := by subst hWW; exact N15.out.setRow _
                     have kn : W16.cell? ⟨b15, 0, none⟩ = some (.string at_) := by rw [hN.cell, NMX.out]; rfl
                     have kk : W16.cell? ⟨b15, 1, none⟩ = some (.int .i64 2) := by rw [hN.cell, ← KX.out]; rfl
                     have S16 := Aside0.mk (S15.out.write rfl L15.out.1 F15.out hO)
                     have kl : W16.cell? ⟨B.bl, 0, none⟩ = some v1 := by rw [S16.out.mem.lv.cell]; rfl
                     have kg0 : W16.cell? ⟨B.bg, 0, none⟩ = some (.func (.func 84) #[] #[.pointer (some ⟨B.bd, 0, none⟩), .pointer (some ⟨B.bn, 0, none⟩), .pointer (some ⟨B.bsv, 0, none⟩)]) := by rw [S16.out.mem.gf.cell]; rfl
                     have DN := Aside0.mk hN
                     have V1X := Aside0.mk (show ∀ k, v1.ownBlock = some k → k ≠ b15 from fun k hk e => (S16.out.v1x hk).1.2 (Or.inr e))
                     have L16 := Aside0.mk (show b15 < W16.heap.size from hN.lt)
                     have D16 := Aside0.mk S16.out.drop
                     have IC := Aside0.mk (show icells ⟨at_, true, []⟩ none 0 = [.string at_, .bool true, .slice none 0 0] by unfold icells; rfl)
                     clear hWW hO hN)
                  | (refine arm_build rfl 50 _ rfl [.string at_, .bool true, .slice none 0 0] (by as_aux_lemma => kernel_rfl) ?_
                     intro v94 hv
                     have V94 := Aside0.mk hv
                     clear hv)
                  | (refine arm_slice1 rfl 22 50 _ rfl _ 3 [.string at_, .bool true, .slice none 0 0] v94 rfl (by rw [V94.out]; rfl) tu22 info50 (by decide) (by decide) rfl ?_
                     intro W19 b19 hb hWW
                     have hBB : Below W16.heap.size W16 W19 := by subst hWW; exact (Below.refl _ _).alloc (Nat.le_refl _) _
                     have A19 := Aside0.mk (show At W19 b19 50 (icells ⟨at_, true, []⟩ none 0) by rw [IC.out]; subst hWW hb; exact At.new _ _ _)
                     have S19 := Aside0.mk (D16.out.below hBB)
                     have B19 := Aside0.mk hBB
                     clear hb hWW hBB)
                  | (have G := S19.out.mem.its.row
                     obtain ⟨As, hAs, hown, hinfo⟩ := G
                     refine arm_appendR rfl _ _ 22 50 rfl _ 3 48 tu22 info50b rfl (by decide) v1 stk.items.length (icellsL stk.items As) (icells ⟨at_, true, []⟩ none 0) rfl hown ⟨b19, 0, none⟩ 1 1 rfl rfl (fun i u hu => by rw [Addr.add_mid, A19.out.cell, Nat.zero_add]; exact hu) (one_icells _ _ _) (by have := HBD.out.2.2.2.2.2.1; show (stk.items.length + 1) * 48 ≤ _; omega) (by have := HBD.out.2.2.2.2.2.1; show stk.items.length + 1 ≤ _; omega) ?_
                     intro v20 W20 hV hO hq
                     have AS := Aside0.mk (And.intro hAs (And.intro hown hinfo))
                     have V20 := Aside0.mk hV
                     have O20 := Aside0.mk hO
                     have Q20 := Aside0.mk hq
                     have L20 := Aside0.mk (show At W20 B.bl 22 [v1] from hO.at_ S19.out.mem.lv.lt (fun h => by have h1 := S19.out.dy _ (S19.out.mem.its.fresh _ h); have h2 := S19.out.mem.ord; omega) S19.out.mem.lv)
                     have DN20 := Aside0.mk (show At W20 b15 101 (ecells x) from hO.at_ (Nat.lt_of_lt_of_le L16.out B19.out.size) (fun h => V1X.out b15 h rfl) (DN.out.below B19.out DN.out.lt))
                     have OV20 := Aside0.mk (show v20.oneCell' = true by obtain ⟨A', c', hv, _⟩ := hV.shape; rw [hv]; rfl)
                     clear hAs hown hinfo hV hO hq)
                  | (refine arm_store1 rfl 22 _ _ rfl ⟨B.bl, 0, none⟩ rfl v20 rfl v1 (by rw [L20.out.cell]; rfl) (L20.out.frozen 0) size22 rfl OV20.out ?_
                     intro W21 hWW
                     have hO : Only (· = B.bl) W20.heap.size W20 W21 := by subst hWW; exact Only.setCell (S := (· = B.bl)) (a := ⟨B.bl, 0, none⟩) (Only.refl _ _ _) (.inl rfl) _
                     have hL : At W21 B.bl 22 [v20] := by subst hWW; exact L20.out.setCell 0 _
                     have S21 := Aside0.mk (S19.out.push (x := ⟨at_, true, []⟩) AS.out.1 AS.out.2.1 AS.out.2.2 V20.out (Nat.zero_le _) O20.out Q20.out (fun hne => absurd rfl hne) hL hO (fun _ h => h.elim) (S19.out.mem.hst.off (Nat.le_refl _)))
                     have DN := Aside0.mk (show At W21 b15 101 (ecells x) from hO.at_ DN20.out.lt (by have h1 := S19.out.mem.ord; have h2 := L15.out.1; have h3 := S19.out.bn; omega) DN20.out)
                     have kw : W21.cell? ⟨B.bw, 0, none⟩ = some (.func (.func 86) #[] #[.pointer (some ⟨B.bg, 0, none⟩), .pointer (some ⟨B.bl, 0, none⟩), .pointer (some ⟨B.bw, 0, none⟩), .pointer (some ⟨B.blf, 0, none⟩)]) := by rw [S21.out.mem.wf.cell]; rfl
                     clear hWW hO hL)
                  | (refine arm_load_row rfl 27 _ rfl b15 2 rfl (x.dig.map bv) (DN.out.rangeAt_eq 2 rfl) (by kernel_rfl) (by rw [List.length_map, XD.out]; exact size27) ?_
                     intro v74 hv0
                     have hv : v74 = xd := hv0.trans XV.out.symm
                     clear hv0
                     subst v74)
                  | (go_at_call 86
                     have hcall := IH.out n' (by have := HN.out; omega) W21 _ base B M { stk with items := stk.items ++ [⟨at_, true, []⟩] } v20 at_ x.dig (deep + 1) e3 st3 S21.out.mem XD.out hnb2 ⟨HBD.out.2.2.2.1, HBD.out.2.2.2.2.1⟩ WL.out
                     rw [← XV.out] at hcall
                     refine hcall.mono ?_
                     rintro e w22 ⟨rfl, v22, hm22, hO22, hv22⟩
                     have S22 := Aside0.mk (S21.out.called hm22 hO22 hv22 (fun _ h => h.elim))
                     clear hcall hm22 hO22 hv22)
                  | fail)
              go_ret
              refine ⟨by rw [← EQ.out.1]; rfl, v22, ?_, S22.out.only, S22.out.vown⟩
              rw [← EQ.out.2]
              exact S22.out.mem.mono (fun b _ hd => hd.1) (fun b hb => hb.elim (S22.out.dom b) (fun h1 => Nat.le_trans S22.out.bn h1))
            · have hp1 : (p.toList == []) = false := beq_eq_false_iff_ne.2 hp
              have HAT := Aside0.mk (show at_ = p ++ ⟨#[47]⟩ ++ nm by rw [ATX.out]; unfold atP; rw [if_neg hp]; rfl)
              have hcat1 : ∀ w, (binOp .add 9 (.string p) (.string ⟨#[47]⟩)).run Tryz.prog w = .ok (.string (p ++ ⟨#[47]⟩)) w := fun w => run_cat w p ⟨#[47]⟩ (by show p.size + 1 ≤ maxLen; unfold maxLen; omega)
              have hcat2 : ∀ w, (binOp .add 9 (.string (p ++ ⟨#[47]⟩)) (.string nm)).run Tryz.prog w = .ok (.string (p ++ ⟨#[47]⟩ ++ nm)) w := fun w => by
                have hz : (p ++ (⟨#[47]⟩ : ByteArray)).size = p.size + 1 := by rw [ByteArray.size_append]; rfl
                exact run_cat w (p ++ ⟨#[47]⟩) nm (by rw [hz]; unfold maxLen; omega)
              clear hp
              go_wp2_with (first
                  | (refine arm_load_row rfl 101 _ rfl ge (k * 34) rfl (ecells x) ROW.out row101 (by rw [ecells_len XD.out]; exact size101) ?_
                     intro v43 hv
                     have V43 := Aside0.mk hv
                     clear hv)
                  | (refine arm_alloc rfl 101 rfl _ _ info101 ?_; intro W15 b15 hb hWW
                     have hN : At W15 b15 101 (ecells ⟨ByteArray.empty, 0, zeroD⟩) := by subst hWW hb; exact At.new _ _ _
                     have hBB : Below wr.heap.size wr W15 := by subst hWW; exact (Below.refl _ _).alloc (Nat.le_refl _) _
                     have F15 := Aside0.mk (HS.out.mem.hst.off (b := b15) (by omega))
                     have L15 := Aside0.mk (show w.heap.size ≤ b15 ∧ wr.heap.size ≤ b15 from ⟨by rw [hb]; exact HS.out.only.size, by omega⟩)
                     have S15 := Aside0.mk ((HS.out.apart L15.out.2).below hBB)
                     have N15 := Aside0.mk hN
                     clear hN hb hWW hBB)
                  | (refine arm_store_row rfl 101 _ _ rfl b15 101 _ (ecells x) rfl V43.out N15.out (by rw [ecells_len XD.out]; rfl) (by rw [ecells_len XD.out]; exact size101) (one_ecells x) ?_
                     intro W16 hWW
                     have hO : Only (· = b15) W15.heap.size W15 W16 := by subst hWW; exact Only.setRow (S := (· = b15)) (Only.refl _ _ _) (.inl rfl) _
                     have hN : At W16 b15 101 (ecells x) := by subst hWW; exact N15.out.setRow _
                     have kn : W16.cell? ⟨b15, 0, none⟩ = some (.string nm) := by rw [hN.cell, NMX.out]; rfl
                     have kk : W16.cell? ⟨b15, 1, none⟩ = some (.int .i64 2) := by rw [hN.cell, ← KX.out]; rfl
                     have S16 := Aside0.mk (S15.out.write rfl L15.out.1 F15.out hO)
                     have kl : W16.cell? ⟨B.bl, 0, none⟩ = some v1 := by rw [S16.out.mem.lv.cell]; rfl
                     have kg0 : W16.cell? ⟨B.bg, 0, none⟩ = some (.func (.func 84) #[] #[.pointer (some ⟨B.bd, 0, none⟩), .pointer (some ⟨B.bn, 0, none⟩), .pointer (some ⟨B.bsv, 0, none⟩)]) := by rw [S16.out.mem.gf.cell]; rfl
                     have DN := Aside0.mk hN
                     have V1X := Aside0.mk (show ∀ k, v1.ownBlock = some k → k ≠ b15 from fun k hk e => (S16.out.v1x hk).1.2 (Or.inr e))
                     have L16 := Aside0.mk (show b15 < W16.heap.size from hN.lt)
                     have D16 := Aside0.mk S16.out.drop
                     have IC := Aside0.mk (show icells ⟨at_, true, []⟩ none 0 = [.string (p ++ ⟨#[47]⟩ ++ nm), .bool true, .slice none 0 0] by unfold icells; rw [HAT.out]; rfl)
                     clear hWW hO hN)
                  | (refine arm_build rfl 50 _ rfl [.string (p ++ ⟨#[47]⟩ ++ nm), .bool true, .slice none 0 0] (by as_aux_lemma => kernel_rfl) ?_
                     intro v94 hv
                     have V94 := Aside0.mk hv
                     clear hv)
                  | (refine arm_slice1 rfl 22 50 _ rfl _ 3 [.string (p ++ ⟨#[47]⟩ ++ nm), .bool true, .slice none 0 0] v94 rfl (by rw [V94.out]; rfl) tu22 info50 (by decide) (by decide) rfl ?_
                     intro W19 b19 hb hWW
                     have hBB : Below W16.heap.size W16 W19 := by subst hWW; exact (Below.refl _ _).alloc (Nat.le_refl _) _
                     have A19 := Aside0.mk (show At W19 b19 50 (icells ⟨at_, true, []⟩ none 0) by rw [IC.out]; subst hWW hb; exact At.new _ _ _)
                     have S19 := Aside0.mk (D16.out.below hBB)
                     have B19 := Aside0.mk hBB
                     clear hb hWW hBB)
                  | (have G := S19.out.mem.its.row
                     obtain ⟨As, hAs, hown, hinfo⟩ := G
                     refine arm_appendR rfl _ _ 22 50 rfl _ 3 48 tu22 info50b rfl (by decide) v1 stk.items.length (icellsL stk.items As) (icells ⟨at_, true, []⟩ none 0) rfl hown ⟨b19, 0, none⟩ 1 1 rfl rfl (fun i u hu => by rw [Addr.add_mid, A19.out.cell, Nat.zero_add]; exact hu) (one_icells _ _ _) (by have := HBD.out.2.2.2.2.2.1; show (stk.items.length + 1) * 48 ≤ _; omega) (by have := HBD.out.2.2.2.2.2.1; show stk.items.length + 1 ≤ _; omega) ?_
                     intro v20 W20 hV hO hq
                     have AS := Aside0.mk (And.intro hAs (And.intro hown hinfo))
                     have V20 := Aside0.mk hV
                     have O20 := Aside0.mk hO
                     have Q20 := Aside0.mk hq
                     have L20 := Aside0.mk (show At W20 B.bl 22 [v1] from hO.at_ S19.out.mem.lv.lt (fun h => by have h1 := S19.out.dy _ (S19.out.mem.its.fresh _ h); have h2 := S19.out.mem.ord; omega) S19.out.mem.lv)
                     have DN20 := Aside0.mk (show At W20 b15 101 (ecells x) from hO.at_ (Nat.lt_of_lt_of_le L16.out B19.out.size) (fun h => V1X.out b15 h rfl) (DN.out.below B19.out DN.out.lt))
                     have OV20 := Aside0.mk (show v20.oneCell' = true by obtain ⟨A', c', hv, _⟩ := hV.shape; rw [hv]; rfl)
                     clear hAs hown hinfo hV hO hq)
                  | (refine arm_store1 rfl 22 _ _ rfl ⟨B.bl, 0, none⟩ rfl v20 rfl v1 (by rw [L20.out.cell]; rfl) (L20.out.frozen 0) size22 rfl OV20.out ?_
                     intro W21 hWW
                     have hO : Only (· = B.bl) W20.heap.size W20 W21 := by subst hWW; exact Only.setCell (S := (· = B.bl)) (a := ⟨B.bl, 0, none⟩) (Only.refl _ _ _) (.inl rfl) _
                     have hL : At W21 B.bl 22 [v20] := by subst hWW; exact L20.out.setCell 0 _
                     have S21 := Aside0.mk (S19.out.push (x := ⟨at_, true, []⟩) AS.out.1 AS.out.2.1 AS.out.2.2 V20.out (Nat.zero_le _) O20.out Q20.out (fun hne => absurd rfl hne) hL hO (fun _ h => h.elim) (S19.out.mem.hst.off (Nat.le_refl _)))
                     have DN := Aside0.mk (show At W21 b15 101 (ecells x) from hO.at_ DN20.out.lt (by have h1 := S19.out.mem.ord; have h2 := L15.out.1; have h3 := S19.out.bn; omega) DN20.out)
                     have kw : W21.cell? ⟨B.bw, 0, none⟩ = some (.func (.func 86) #[] #[.pointer (some ⟨B.bg, 0, none⟩), .pointer (some ⟨B.bl, 0, none⟩), .pointer (some ⟨B.bw, 0, none⟩), .pointer (some ⟨B.blf, 0, none⟩)]) := by rw [S21.out.mem.wf.cell]; rfl
                     clear hWW hO hL)
                  | (refine arm_load_row rfl 27 _ rfl b15 2 rfl (x.dig.map bv) (DN.out.rangeAt_eq 2 rfl) (by kernel_rfl) (by rw [List.length_map, XD.out]; exact size27) ?_
                     intro v74 hv0
                     have hv : v74 = xd := hv0.trans XV.out.symm
                     clear hv0
                     subst v74)
                  | (go_at_call 86
                     have hcall := IH.out n' (by have := HN.out; omega) W21 _ base B M { stk with items := stk.items ++ [⟨at_, true, []⟩] } v20 at_ x.dig (deep + 1) e3 st3 S21.out.mem XD.out hnb2 ⟨HBD.out.2.2.2.1, HBD.out.2.2.2.2.1⟩ WL.out
                     rw [← XV.out, show at_ = p ++ ⟨#[47]⟩ ++ nm from HAT.out] at hcall
                     refine hcall.mono ?_
                     rintro e w22 ⟨rfl, v22, hm22, hO22, hv22⟩
                     have S22 := Aside0.mk (S21.out.called hm22 hO22 hv22 (fun _ h => h.elim))
                     clear hcall hm22 hO22 hv22)
                  | fail)
              go_ret
              refine ⟨by rw [← EQ.out.1]; rfl, v22, ?_, S22.out.only, S22.out.vown⟩
              rw [← EQ.out.2]
              exact S22.out.mem.mono (fun b _ hd => hd.1) (fun b hb => hb.elim (S22.out.dom b) (fun h1 => Nat.le_trans S22.out.bn h1))
        · rw [if_neg hkind] at hr
          have hk1 : (x.kind == 2) = false := beq_eq_false_iff_ne.2 hkind
          obtain ⟨kd, hkd⟩ : ∃ kd, kd = x.kind := ⟨_, rfl⟩
          rw [← hkd] at hk1
          have KX := Aside0.mk hkd.symm
          clear hkd hkind
          by_cases he2 : e2 = 0
          · subst he2
            rw [if_pos rfl] at hr
            obtain ⟨nb2, hnb2⟩ : ∃ nb2, nb2 = b2.length := ⟨_, rfl⟩
            rw [← hnb2] at hr
            have NB2 := Aside0.mk hnb2
            clear hnb2
            by_cases hlf : stk.left < (nb2 : Int)
            · rw [if_pos hlf] at hr
              simp only [Option.some.injEq, Prod.mk.injEq] at hr
              have hlf1 : decide ((nb2 : Int) > stk.left) = true := decide_eq_true hlf
              have hlf2 : decide (stk.left < (nb2 : Int)) = true := decide_eq_true hlf
              have EQ := Aside0.mk hr
              clear hr
              by_cases hp : p.toList = []
              · have hp1 : (p.toList == []) = true := by rw [hp]; rfl
                have hat : at_ = nm := by rw [ATX.out]; unfold atP; rw [if_pos hp]
                subst hat
                clear hp
                go_wp2_with (first
                    | (refine arm_load_row rfl 101 _ rfl ge (k * 34) rfl (ecells x) ROW.out row101 (by rw [ecells_len XD.out]; exact size101) ?_
                       intro v43 hv
                       have V43 := Aside0.mk hv
                       clear hv)
                    | (refine arm_alloc rfl 101 rfl _ _ info101 ?_; intro W15 b15 hb hWW
                       have hN : At W15 b15 101 (ecells ⟨ByteArray.empty, 0, zeroD⟩) := by subst hWW hb; exact At.new _ _ _
                       have hBB : Below wr.heap.size wr W15 := by subst hWW; exact (Below.refl _ _).alloc (Nat.le_refl _) _
                       have F15 := Aside0.mk (HS.out.mem.hst.off (b := b15) (by omega))
                       have L15 := Aside0.mk (show w.heap.size ≤ b15 ∧ wr.heap.size ≤ b15 from ⟨by rw [hb]; exact HS.out.only.size, by omega⟩)
                       have S15 := Aside0.mk ((HS.out.apart L15.out.2).below hBB)
                       have N15 := Aside0.mk hN
                       clear hN hb hWW hBB)
                    | (refine arm_store_row rfl 101 _ _ rfl b15 101 _ (ecells x) rfl V43.out N15.out (by rw [ecells_len XD.out]; rfl) (by rw [ecells_len XD.out]; exact size101) (one_ecells x) ?_
                       intro W16 hWW
                       have hO : Only (· = b15) W15.heap.size W15 W16 := by subst hWW; exact Only.setRow (S := (· = b15)) (Only.refl _ _ _) (.inl rfl) _
                       have hN : At W16 b15 101 (ecells x) := by subst hWW; exact N15.out.setRow _
                       have kn : W16.cell? ⟨b15, 0, none⟩ = some (.string at_) := by rw [hN.cell, NMX.out]; rfl
                       have kk : W16.cell? ⟨b15, 1, none⟩ = some (.int .i64 kd) := by rw [hN.cell, ← KX.out]; rfl
                       have S16 := Aside0.mk (S15.out.write rfl L15.out.1 F15.out hO)
                       have kl : W16.cell? ⟨B.bl, 0, none⟩ = some v1 := by rw [S16.out.mem.lv.cell]; rfl
                       have kg : W16.cell? ⟨B.bg, 0, none⟩ = some (.func (.func 84) #[] #[.pointer (some ⟨B.bd, 0, none⟩), .pointer (some ⟨B.bn, 0, none⟩), .pointer (some ⟨B.bsv, 0, none⟩)]) := by rw [S16.out.mem.gf.cell]; rfl
                       have N16 := Aside0.mk hN
                       have DN := Aside0.mk hN
                       clear hWW hO hN)
                    | (refine arm_load_row rfl 27 _ rfl b15 2 rfl (x.dig.map bv) (DN.out.rangeAt_eq 2 rfl) (by kernel_rfl) (by rw [List.length_map, XD.out]; exact size27) ?_
                       intro v74 hv0
                       have hv : v74 = xd := hv0.trans XV.out.symm
                       clear hv0
                       subst v74)
                    | (go_at_call 84
                       have hcall := lget_calls W16 B.bd B.bn B.bsv B.s B.bm depth stk.nodes (deep + 1) stk.σ M x.dig S16.out.mem.dep S16.out.mem.nod S16.out.mem.sv S16.out.mem.hst S16.out.mem.offn ⟨S16.out.mem.nn.2.2.2.2.2.2.1, S16.out.mem.nn.2.2.2.2.2.2.2, S16.out.mem.nn.2.1, S16.out.mem.nn.1⟩ XD.out ⟨HBD.out.2.2.2.1, HBD.out.2.2.2.2.1⟩ hnb2
                       rw [GX.out, ← XV.out] at hcall
                       refine hcall.mono ?_
                       rintro e w17 ⟨v17, rfl, hv1, hv2, hH17, hn17, hO17⟩
                       obtain ⟨A17, c17, hv17, hc17, hr17, ho17⟩ := hv1.rdl
                       subst hv17
                       rw [← NB2.out]
                       have R17 := Aside0.mk (And.intro hc17 hr17)
                       have S17 := Aside0.mk ((S16.out.got hH17 hn17 hO17).drop)
                       have Q17 := Aside0.mk (show b2 ≠ [] → ∃ ad, A17 = some ad ∧ W16.heap.size ≤ ad.block from fun hne => by
                         obtain ⟨ad, q1, q2⟩ := ho17 hne
                         exact ⟨ad, q1, hv2 _ q2⟩)
                       have V1L := Aside0.mk (show ∀ k, v1.ownBlock = some k → k < W16.heap.size from fun k hk => (S16.out.v1x hk).2)
                       have G17 := Aside0.mk (show w.heap.size ≤ W16.heap.size ∧ ge < W16.heap.size from ⟨S16.out.only.size, S16.out.ents.lt rfl⟩)
                       have kf : w17.cell? ⟨B.blf, 0, none⟩ = some (.int .i64 stk.left) := by rw [S17.out.mem.lf.cell]; rfl
                       have ff : w17.frozen? ⟨B.blf, 0, none⟩ = false := S17.out.mem.lf.frozen _
                       clear hcall hv1 hv2 hH17 hn17 hO17 hc17 hr17 ho17 kl kg kn kk)
                    | fail)
                go_ret
                refine ⟨by rw [← EQ.out.1]; rfl, v1, ?_, S17.out.only, S17.out.vown⟩
                rw [← EQ.out.2]
                exact S17.out.mem.mono (fun b _ hd => hd.1) (fun b hb => hb.elim (S17.out.dom b) (fun h1 => Nat.le_trans S17.out.bn h1))
              · have hp1 : (p.toList == []) = false := beq_eq_false_iff_ne.2 hp
                have HAT := Aside0.mk (show at_ = p ++ ⟨#[47]⟩ ++ nm by rw [ATX.out]; unfold atP; rw [if_neg hp]; rfl)
                have hcat1 : ∀ w, (binOp .add 9 (.string p) (.string ⟨#[47]⟩)).run Tryz.prog w = .ok (.string (p ++ ⟨#[47]⟩)) w := fun w => run_cat w p ⟨#[47]⟩ (by show p.size + 1 ≤ maxLen; unfold maxLen; omega)
                have hcat2 : ∀ w, (binOp .add 9 (.string (p ++ ⟨#[47]⟩)) (.string nm)).run Tryz.prog w = .ok (.string (p ++ ⟨#[47]⟩ ++ nm)) w := fun w => by
                  have hz : (p ++ (⟨#[47]⟩ : ByteArray)).size = p.size + 1 := by rw [ByteArray.size_append]; rfl
                  exact run_cat w (p ++ ⟨#[47]⟩) nm (by rw [hz]; unfold maxLen; omega)
                clear hp
                go_wp2_with (first
                    | (refine arm_load_row rfl 101 _ rfl ge (k * 34) rfl (ecells x) ROW.out row101 (by rw [ecells_len XD.out]; exact size101) ?_
                       intro v43 hv
                       have V43 := Aside0.mk hv
                       clear hv)
                    | (refine arm_alloc rfl 101 rfl _ _ info101 ?_; intro W15 b15 hb hWW
                       have hN : At W15 b15 101 (ecells ⟨ByteArray.empty, 0, zeroD⟩) := by subst hWW hb; exact At.new _ _ _
                       have hBB : Below wr.heap.size wr W15 := by subst hWW; exact (Below.refl _ _).alloc (Nat.le_refl _) _
                       have F15 := Aside0.mk (HS.out.mem.hst.off (b := b15) (by omega))
                       have L15 := Aside0.mk (show w.heap.size ≤ b15 ∧ wr.heap.size ≤ b15 from ⟨by rw [hb]; exact HS.out.only.size, by omega⟩)
                       have S15 := Aside0.mk ((HS.out.apart L15.out.2).below hBB)
                       have N15 := Aside0.mk hN
                       clear hN hb hWW hBB)
                    | (refine arm_store_row rfl 101 _ _ rfl b15 101 _ (ecells x) rfl V43.out N15.out (by rw [ecells_len XD.out]; rfl) (by rw [ecells_len XD.out]; exact size101) (one_ecells x) ?_
                       intro W16 hWW
                       have hO : Only (· = b15) W15.heap.size W15 W16 := by subst hWW; exact Only.setRow (S := (· = b15)) (Only.refl _ _ _) (.inl rfl) _
                       have hN : At W16 b15 101 (ecells x) := by subst hWW; exact N15.out.setRow _
                       have kn : W16.cell? ⟨b15, 0, none⟩ = some (.string nm) := by rw [hN.cell, NMX.out]; rfl
                       have kk : W16.cell? ⟨b15, 1, none⟩ = some (.int .i64 kd) := by rw [hN.cell, ← KX.out]; rfl
                       have S16 := Aside0.mk (S15.out.write rfl L15.out.1 F15.out hO)
                       have kl : W16.cell? ⟨B.bl, 0, none⟩ = some v1 := by rw [S16.out.mem.lv.cell]; rfl
                       have kg : W16.cell? ⟨B.bg, 0, none⟩ = some (.func (.func 84) #[] #[.pointer (some ⟨B.bd, 0, none⟩), .pointer (some ⟨B.bn, 0, none⟩), .pointer (some ⟨B.bsv, 0, none⟩)]) := by rw [S16.out.mem.gf.cell]; rfl
                       have N16 := Aside0.mk hN
                       have DN := Aside0.mk hN
                       clear hWW hO hN)
                    | (refine arm_load_row rfl 27 _ rfl b15 2 rfl (x.dig.map bv) (DN.out.rangeAt_eq 2 rfl) (by kernel_rfl) (by rw [List.length_map, XD.out]; exact size27) ?_
                       intro v74 hv0
                       have hv : v74 = xd := hv0.trans XV.out.symm
                       clear hv0
                       subst v74)
                    | (go_at_call 84
                       have hcall := lget_calls W16 B.bd B.bn B.bsv B.s B.bm depth stk.nodes (deep + 1) stk.σ M x.dig S16.out.mem.dep S16.out.mem.nod S16.out.mem.sv S16.out.mem.hst S16.out.mem.offn ⟨S16.out.mem.nn.2.2.2.2.2.2.1, S16.out.mem.nn.2.2.2.2.2.2.2, S16.out.mem.nn.2.1, S16.out.mem.nn.1⟩ XD.out ⟨HBD.out.2.2.2.1, HBD.out.2.2.2.2.1⟩ hnb2
                       rw [GX.out, ← XV.out] at hcall
                       refine hcall.mono ?_
                       rintro e w17 ⟨v17, rfl, hv1, hv2, hH17, hn17, hO17⟩
                       obtain ⟨A17, c17, hv17, hc17, hr17, ho17⟩ := hv1.rdl
                       subst hv17
                       rw [← NB2.out]
                       have R17 := Aside0.mk (And.intro hc17 hr17)
                       have S17 := Aside0.mk ((S16.out.got hH17 hn17 hO17).drop)
                       have Q17 := Aside0.mk (show b2 ≠ [] → ∃ ad, A17 = some ad ∧ W16.heap.size ≤ ad.block from fun hne => by
                         obtain ⟨ad, q1, q2⟩ := ho17 hne
                         exact ⟨ad, q1, hv2 _ q2⟩)
                       have V1L := Aside0.mk (show ∀ k, v1.ownBlock = some k → k < W16.heap.size from fun k hk => (S16.out.v1x hk).2)
                       have G17 := Aside0.mk (show w.heap.size ≤ W16.heap.size ∧ ge < W16.heap.size from ⟨S16.out.only.size, S16.out.ents.lt rfl⟩)
                       have kf : w17.cell? ⟨B.blf, 0, none⟩ = some (.int .i64 stk.left) := by rw [S17.out.mem.lf.cell]; rfl
                       have ff : w17.frozen? ⟨B.blf, 0, none⟩ = false := S17.out.mem.lf.frozen _
                       clear hcall hv1 hv2 hH17 hn17 hO17 hc17 hr17 ho17 kl kg kn kk)
                    | fail)
                go_ret
                refine ⟨by rw [← EQ.out.1]; rfl, v1, ?_, S17.out.only, S17.out.vown⟩
                rw [← EQ.out.2]
                exact S17.out.mem.mono (fun b _ hd => hd.1) (fun b hb => hb.elim (S17.out.dom b) (fun h1 => Nat.le_trans S17.out.bn h1))
            · rw [if_neg hlf] at hr
              have hlf1 : decide ((nb2 : Int) > stk.left) = false := decide_eq_false hlf
              have hlf2 : decide (stk.left < (nb2 : Int)) = false := decide_eq_false hlf
              have R2 := Aside0.mk hr
              clear hr
              by_cases hp : p.toList = []
              · have hp1 : (p.toList == []) = true := by rw [hp]; rfl
                have hat : at_ = nm := by rw [ATX.out]; unfold atP; rw [if_pos hp]
                subst hat
                clear hp
                go_wp2_with (first
                    | (refine arm_load_row rfl 101 _ rfl ge (k * 34) rfl (ecells x) ROW.out row101 (by rw [ecells_len XD.out]; exact size101) ?_
                       intro v43 hv
                       have V43 := Aside0.mk hv
                       clear hv)
                    | (refine arm_alloc rfl 101 rfl _ _ info101 ?_; intro W15 b15 hb hWW
                       have hN : At W15 b15 101 (ecells ⟨ByteArray.empty, 0, zeroD⟩) := by subst hWW hb; exact At.new _ _ _
                       have hBB : Below wr.heap.size wr W15 := by subst hWW; exact (Below.refl _ _).alloc (Nat.le_refl _) _
                       have F15 := Aside0.mk (HS.out.mem.hst.off (b := b15) (by omega))
                       have L15 := Aside0.mk (show w.heap.size ≤ b15 ∧ wr.heap.size ≤ b15 from ⟨by rw [hb]; exact HS.out.only.size, by omega⟩)
                       have S15 := Aside0.mk ((HS.out.apart L15.out.2).below hBB)
                       have N15 := Aside0.mk hN
                       clear hN hb hWW hBB)
                    | (refine arm_store_row rfl 101 _ _ rfl b15 101 _ (ecells x) rfl V43.out N15.out (by rw [ecells_len XD.out]; rfl) (by rw [ecells_len XD.out]; exact size101) (one_ecells x) ?_
                       intro W16 hWW
                       have hO : Only (· = b15) W15.heap.size W15 W16 := by subst hWW; exact Only.setRow (S := (· = b15)) (Only.refl _ _ _) (.inl rfl) _
                       have hN : At W16 b15 101 (ecells x) := by subst hWW; exact N15.out.setRow _
                       have kn : W16.cell? ⟨b15, 0, none⟩ = some (.string at_) := by rw [hN.cell, NMX.out]; rfl
                       have kk : W16.cell? ⟨b15, 1, none⟩ = some (.int .i64 kd) := by rw [hN.cell, ← KX.out]; rfl
                       have S16 := Aside0.mk (S15.out.write rfl L15.out.1 F15.out hO)
                       have kl : W16.cell? ⟨B.bl, 0, none⟩ = some v1 := by rw [S16.out.mem.lv.cell]; rfl
                       have kg : W16.cell? ⟨B.bg, 0, none⟩ = some (.func (.func 84) #[] #[.pointer (some ⟨B.bd, 0, none⟩), .pointer (some ⟨B.bn, 0, none⟩), .pointer (some ⟨B.bsv, 0, none⟩)]) := by rw [S16.out.mem.gf.cell]; rfl
                       have N16 := Aside0.mk hN
                       have DN := Aside0.mk hN
                       clear hWW hO hN)
                    | (refine arm_load_row rfl 27 _ rfl b15 2 rfl (x.dig.map bv) (DN.out.rangeAt_eq 2 rfl) (by kernel_rfl) (by rw [List.length_map, XD.out]; exact size27) ?_
                       intro v74 hv0
                       have hv : v74 = xd := hv0.trans XV.out.symm
                       clear hv0
                       subst v74)
                    | (go_at_call 84
                       have hcall := lget_calls W16 B.bd B.bn B.bsv B.s B.bm depth stk.nodes (deep + 1) stk.σ M x.dig S16.out.mem.dep S16.out.mem.nod S16.out.mem.sv S16.out.mem.hst S16.out.mem.offn ⟨S16.out.mem.nn.2.2.2.2.2.2.1, S16.out.mem.nn.2.2.2.2.2.2.2, S16.out.mem.nn.2.1, S16.out.mem.nn.1⟩ XD.out ⟨HBD.out.2.2.2.1, HBD.out.2.2.2.2.1⟩ hnb2
                       rw [GX.out, ← XV.out] at hcall
                       refine hcall.mono ?_
                       rintro e w17 ⟨v17, rfl, hv1, hv2, hH17, hn17, hO17⟩
                       obtain ⟨A17, c17, hv17, hc17, hr17, ho17⟩ := hv1.rdl
                       subst hv17
                       rw [← NB2.out]
                       have R17 := Aside0.mk (And.intro hc17 hr17)
                       have S17 := Aside0.mk ((S16.out.got hH17 hn17 hO17).drop)
                       have Q17 := Aside0.mk (show b2 ≠ [] → ∃ ad, A17 = some ad ∧ W16.heap.size ≤ ad.block from fun hne => by
                         obtain ⟨ad, q1, q2⟩ := ho17 hne
                         exact ⟨ad, q1, hv2 _ q2⟩)
                       have V1L := Aside0.mk (show ∀ k, v1.ownBlock = some k → k < W16.heap.size from fun k hk => (S16.out.v1x hk).2)
                       have G17 := Aside0.mk (show w.heap.size ≤ W16.heap.size ∧ ge < W16.heap.size from ⟨S16.out.only.size, S16.out.ents.lt rfl⟩)
                       have kf : w17.cell? ⟨B.blf, 0, none⟩ = some (.int .i64 stk.left) := by rw [S17.out.mem.lf.cell]; rfl
                       have ff : w17.frozen? ⟨B.blf, 0, none⟩ = false := S17.out.mem.lf.frozen _
                       clear hcall hv1 hv2 hH17 hn17 hO17 hc17 hr17 ho17 kl kg kn kk)
                    | (refine arm_store_int rfl 3 _ _ rfl ⟨B.blf, 0, none⟩ rfl .i64 (stk.left - (nb2 : Int)) rfl _ kf ff size3 rfl ?_
                       intro W18 hWW
                       have hO : Only (· = B.blf) w17.heap.size w17 W18 := by subst hWW; exact Only.setCell (S := (· = B.blf)) (a := ⟨B.blf, 0, none⟩) (Only.refl _ _ _) (.inl rfl) _
                       have hA : At W18 B.blf 3 [.int .i64 (stk.left - (nb2 : Int))] := by subst hWW; exact S17.out.mem.lf.setCell 0 _
                       have S18 := Aside0.mk (S17.out.setLeft hA hO)
                       have D18 := Aside0.mk (show b2 ≠ [] → ∃ ad, A17 = some ad ∧ W16.heap.size ≤ ad.block ∧ ad.block < W18.heap.size ∧ ∀ k, k < b2.length → W18.cell? (ad.add k) = some (bv (b2.getD k 0)) from fun hne => by
                         obtain ⟨ad, q1, q2⟩ := Q17.out hne
                         obtain ⟨ad', q3, q4, q5⟩ := R17.out.2 hne
                         rw [q1] at q3; injection q3 with q3; subst q3
                         have h1 := S17.out.mem.ord
                         have h2 := S17.out.bn
                         have h3 := G17.out
                         exact ⟨ad, q1, q2, Nat.lt_of_lt_of_le q4 hO.size, fun k hk => by rw [hO.cell (by rw [add_block]; exact q4) (by rw [add_block]; intro e; have e : ad.block = B.blf := e; omega)]; exact q5 k hk⟩)
                       have kl : W18.cell? ⟨B.bl, 0, none⟩ = some v1 := by rw [S18.out.mem.lv.cell]; rfl
                       have IC := Aside0.mk (show icells ⟨at_, false, b2⟩ A17 c17 = [.string at_, .bool false, .slice A17 nb2 c17] by unfold icells; rw [NB2.out])
                       clear kf ff hWW hO hA)
                    | (refine arm_build rfl 50 _ rfl [.string at_, .bool false, .slice A17 nb2 c17] (by as_aux_lemma => kernel_rfl) ?_
                       intro v94 hv
                       have V94 := Aside0.mk hv
                       clear hv)
                    | (refine arm_slice1 rfl 22 50 _ rfl _ 3 [.string at_, .bool false, .slice A17 nb2 c17] v94 rfl (by rw [V94.out]; rfl) tu22 info50 (by decide) (by decide) rfl ?_
                       intro W19 b19 hb hWW
                       have hBB : Below W18.heap.size W18 W19 := by subst hWW; exact (Below.refl _ _).alloc (Nat.le_refl _) _
                       have A19 := Aside0.mk (show At W19 b19 50 (icells ⟨at_, false, b2⟩ A17 c17) by rw [IC.out]; subst hWW hb; exact At.new _ _ _)
                       have S19 := Aside0.mk (S18.out.below hBB)
                       have B19 := Aside0.mk hBB
                       clear hb hWW hBB)
                    | (have G := S19.out.mem.its.row
                       obtain ⟨As, hAs, hown, hinfo⟩ := G
                       refine arm_appendR rfl _ _ 22 50 rfl _ 3 48 tu22 info50b rfl (by decide) v1 stk.items.length (icellsL stk.items As) (icells ⟨at_, false, b2⟩ A17 c17) rfl hown ⟨b19, 0, none⟩ 1 1 rfl rfl (fun i u hu => by rw [Addr.add_mid, A19.out.cell, Nat.zero_add]; exact hu) (one_icells _ _ _) (by have := HBD.out.2.2.2.2.2.1; show (stk.items.length + 1) * 48 ≤ _; omega) (by have := HBD.out.2.2.2.2.2.1; show stk.items.length + 1 ≤ _; omega) ?_
                       intro v20 W20 hV hO hq
                       have AS := Aside0.mk (And.intro hAs (And.intro hown hinfo))
                       have V20 := Aside0.mk hV
                       have O20 := Aside0.mk hO
                       have Q20 := Aside0.mk hq
                       have L20 := Aside0.mk (show At W20 B.bl 22 [v1] from hO.at_ S19.out.mem.lv.lt (fun h => by have h1 := S19.out.dy _ (S19.out.mem.its.fresh _ h); have h2 := S19.out.mem.ord; omega) S19.out.mem.lv)
                       have OV20 := Aside0.mk (show v20.oneCell' = true by obtain ⟨A', c', hv, _⟩ := hV.shape; rw [hv]; rfl)
                       clear hAs hown hinfo hV hO hq)
                    | (refine arm_store1 rfl 22 _ _ rfl ⟨B.bl, 0, none⟩ rfl v20 rfl v1 (by rw [L20.out.cell]; rfl) (L20.out.frozen 0) size22 rfl OV20.out ?_
                       intro W21 hWW
                       have hO : Only (· = B.bl) W20.heap.size W20 W21 := by subst hWW; exact Only.setCell (S := (· = B.bl)) (a := ⟨B.bl, 0, none⟩) (Only.refl _ _ _) (.inl rfl) _
                       have hL : At W21 B.bl 22 [v20] := by subst hWW; exact L20.out.setCell 0 _
                       have S21 := Aside0.mk (S19.out.push (x := ⟨at_, false, b2⟩) AS.out.1 AS.out.2.1 AS.out.2.2 V20.out (R17.out.1) O20.out Q20.out (fun hne => by
                         obtain ⟨ad, q1, q2, q3, q4⟩ := D18.out hne
                         have h1 := G17.out
                         exact ⟨ad, q1, ⟨Or.inr (by omega), fun hx => hx.elim (fun e => by have e' : ge = ad.block := Option.some.inj e; omega) id⟩, Nat.lt_of_lt_of_le q3 B19.out.size, fun e => by have := V1L.out _ e; omega, fun k hk => by rw [B19.out.cell (by rw [add_block]; exact q3)]; exact q4 k hk⟩) hL hO (fun _ h => h.elim) (S19.out.mem.hst.off (Nat.le_refl _)))
                       clear hWW hO hL)
                    | fail)
                go_roundg (ys.length - (k + 1))
                case measure => have := HJ.out; omega
                case rel => exact ⟨k + 1, n', _, v20, ⟨by have := HJ.out; omega⟩, by go_num, ⟨by have := HN.out; omega⟩, R2, S21⟩
              · have hp1 : (p.toList == []) = false := beq_eq_false_iff_ne.2 hp
                have HAT := Aside0.mk (show at_ = p ++ ⟨#[47]⟩ ++ nm by rw [ATX.out]; unfold atP; rw [if_neg hp]; rfl)
                have hcat1 : ∀ w, (binOp .add 9 (.string p) (.string ⟨#[47]⟩)).run Tryz.prog w = .ok (.string (p ++ ⟨#[47]⟩)) w := fun w => run_cat w p ⟨#[47]⟩ (by show p.size + 1 ≤ maxLen; unfold maxLen; omega)
                have hcat2 : ∀ w, (binOp .add 9 (.string (p ++ ⟨#[47]⟩)) (.string nm)).run Tryz.prog w = .ok (.string (p ++ ⟨#[47]⟩ ++ nm)) w := fun w => by
                  have hz : (p ++ (⟨#[47]⟩ : ByteArray)).size = p.size + 1 := by rw [ByteArray.size_append]; rfl
                  exact run_cat w (p ++ ⟨#[47]⟩) nm (by rw [hz]; unfold maxLen; omega)
                clear hp
                go_wp2_with (first
                    | (refine arm_load_row rfl 101 _ rfl ge (k * 34) rfl (ecells x) ROW.out row101 (by rw [ecells_len XD.out]; exact size101) ?_
                       intro v43 hv
                       have V43 := Aside0.mk hv
                       clear hv)
                    | (refine arm_alloc rfl 101 rfl _ _ info101 ?_; intro W15 b15 hb hWW
                       have hN : At W15 b15 101 (ecells ⟨ByteArray.empty, 0, zeroD⟩) := by subst hWW hb; exact At.new _ _ _
                       have hBB : Below wr.heap.size wr W15 := by subst hWW; exact (Below.refl _ _).alloc (Nat.le_refl _) _
                       have F15 := Aside0.mk (HS.out.mem.hst.off (b := b15) (by omega))
                       have L15 := Aside0.mk (show w.heap.size ≤ b15 ∧ wr.heap.size ≤ b15 from ⟨by rw [hb]; exact HS.out.only.size, by omega⟩)
                       have S15 := Aside0.mk ((HS.out.apart L15.out.2).below hBB)
                       have N15 := Aside0.mk hN
                       clear hN hb hWW hBB)
                    | (refine arm_store_row rfl 101 _ _ rfl b15 101 _ (ecells x) rfl V43.out N15.out (by rw [ecells_len XD.out]; rfl) (by rw [ecells_len XD.out]; exact size101) (one_ecells x) ?_
                       intro W16 hWW
                       have hO : Only (· = b15) W15.heap.size W15 W16 := by subst hWW; exact Only.setRow (S := (· = b15)) (Only.refl _ _ _) (.inl rfl) _
                       have hN : At W16 b15 101 (ecells x) := by subst hWW; exact N15.out.setRow _
                       have kn : W16.cell? ⟨b15, 0, none⟩ = some (.string nm) := by rw [hN.cell, NMX.out]; rfl
                       have kk : W16.cell? ⟨b15, 1, none⟩ = some (.int .i64 kd) := by rw [hN.cell, ← KX.out]; rfl
                       have S16 := Aside0.mk (S15.out.write rfl L15.out.1 F15.out hO)
                       have kl : W16.cell? ⟨B.bl, 0, none⟩ = some v1 := by rw [S16.out.mem.lv.cell]; rfl
                       have kg : W16.cell? ⟨B.bg, 0, none⟩ = some (.func (.func 84) #[] #[.pointer (some ⟨B.bd, 0, none⟩), .pointer (some ⟨B.bn, 0, none⟩), .pointer (some ⟨B.bsv, 0, none⟩)]) := by rw [S16.out.mem.gf.cell]; rfl
                       have N16 := Aside0.mk hN
                       have DN := Aside0.mk hN
                       clear hWW hO hN)
                    | (refine arm_load_row rfl 27 _ rfl b15 2 rfl (x.dig.map bv) (DN.out.rangeAt_eq 2 rfl) (by kernel_rfl) (by rw [List.length_map, XD.out]; exact size27) ?_
                       intro v74 hv0
                       have hv : v74 = xd := hv0.trans XV.out.symm
                       clear hv0
                       subst v74)
                    | (go_at_call 84
                       have hcall := lget_calls W16 B.bd B.bn B.bsv B.s B.bm depth stk.nodes (deep + 1) stk.σ M x.dig S16.out.mem.dep S16.out.mem.nod S16.out.mem.sv S16.out.mem.hst S16.out.mem.offn ⟨S16.out.mem.nn.2.2.2.2.2.2.1, S16.out.mem.nn.2.2.2.2.2.2.2, S16.out.mem.nn.2.1, S16.out.mem.nn.1⟩ XD.out ⟨HBD.out.2.2.2.1, HBD.out.2.2.2.2.1⟩ hnb2
                       rw [GX.out, ← XV.out] at hcall
                       refine hcall.mono ?_
                       rintro e w17 ⟨v17, rfl, hv1, hv2, hH17, hn17, hO17⟩
                       obtain ⟨A17, c17, hv17, hc17, hr17, ho17⟩ := hv1.rdl
                       subst hv17
                       rw [← NB2.out]
                       have R17 := Aside0.mk (And.intro hc17 hr17)
                       have S17 := Aside0.mk ((S16.out.got hH17 hn17 hO17).drop)
                       have Q17 := Aside0.mk (show b2 ≠ [] → ∃ ad, A17 = some ad ∧ W16.heap.size ≤ ad.block from fun hne => by
                         obtain ⟨ad, q1, q2⟩ := ho17 hne
                         exact ⟨ad, q1, hv2 _ q2⟩)
                       have V1L := Aside0.mk (show ∀ k, v1.ownBlock = some k → k < W16.heap.size from fun k hk => (S16.out.v1x hk).2)
                       have G17 := Aside0.mk (show w.heap.size ≤ W16.heap.size ∧ ge < W16.heap.size from ⟨S16.out.only.size, S16.out.ents.lt rfl⟩)
                       have kf : w17.cell? ⟨B.blf, 0, none⟩ = some (.int .i64 stk.left) := by rw [S17.out.mem.lf.cell]; rfl
                       have ff : w17.frozen? ⟨B.blf, 0, none⟩ = false := S17.out.mem.lf.frozen _
                       clear hcall hv1 hv2 hH17 hn17 hO17 hc17 hr17 ho17 kl kg kn kk)
                    | (refine arm_store_int rfl 3 _ _ rfl ⟨B.blf, 0, none⟩ rfl .i64 (stk.left - (nb2 : Int)) rfl _ kf ff size3 rfl ?_
                       intro W18 hWW
                       have hO : Only (· = B.blf) w17.heap.size w17 W18 := by subst hWW; exact Only.setCell (S := (· = B.blf)) (a := ⟨B.blf, 0, none⟩) (Only.refl _ _ _) (.inl rfl) _
                       have hA : At W18 B.blf 3 [.int .i64 (stk.left - (nb2 : Int))] := by subst hWW; exact S17.out.mem.lf.setCell 0 _
                       have S18 := Aside0.mk (S17.out.setLeft hA hO)
                       have D18 := Aside0.mk (show b2 ≠ [] → ∃ ad, A17 = some ad ∧ W16.heap.size ≤ ad.block ∧ ad.block < W18.heap.size ∧ ∀ k, k < b2.length → W18.cell? (ad.add k) = some (bv (b2.getD k 0)) from fun hne => by
                         obtain ⟨ad, q1, q2⟩ := Q17.out hne
                         obtain ⟨ad', q3, q4, q5⟩ := R17.out.2 hne
                         rw [q1] at q3; injection q3 with q3; subst q3
                         have h1 := S17.out.mem.ord
                         have h2 := S17.out.bn
                         have h3 := G17.out
                         exact ⟨ad, q1, q2, Nat.lt_of_lt_of_le q4 hO.size, fun k hk => by rw [hO.cell (by rw [add_block]; exact q4) (by rw [add_block]; intro e; have e : ad.block = B.blf := e; omega)]; exact q5 k hk⟩)
                       have kl : W18.cell? ⟨B.bl, 0, none⟩ = some v1 := by rw [S18.out.mem.lv.cell]; rfl
                       have IC := Aside0.mk (show icells ⟨at_, false, b2⟩ A17 c17 = [.string (p ++ ⟨#[47]⟩ ++ nm), .bool false, .slice A17 nb2 c17] by unfold icells; rw [NB2.out, HAT.out])
                       clear kf ff hWW hO hA)
                    | (refine arm_build rfl 50 _ rfl [.string (p ++ ⟨#[47]⟩ ++ nm), .bool false, .slice A17 nb2 c17] (by as_aux_lemma => kernel_rfl) ?_
                       intro v94 hv
                       have V94 := Aside0.mk hv
                       clear hv)
                    | (refine arm_slice1 rfl 22 50 _ rfl _ 3 [.string (p ++ ⟨#[47]⟩ ++ nm), .bool false, .slice A17 nb2 c17] v94 rfl (by rw [V94.out]; rfl) tu22 info50 (by decide) (by decide) rfl ?_
                       intro W19 b19 hb hWW
                       have hBB : Below W18.heap.size W18 W19 := by subst hWW; exact (Below.refl _ _).alloc (Nat.le_refl _) _
                       have A19 := Aside0.mk (show At W19 b19 50 (icells ⟨at_, false, b2⟩ A17 c17) by rw [IC.out]; subst hWW hb; exact At.new _ _ _)
                       have S19 := Aside0.mk (S18.out.below hBB)
                       have B19 := Aside0.mk hBB
                       clear hb hWW hBB)
                    | (have G := S19.out.mem.its.row
                       obtain ⟨As, hAs, hown, hinfo⟩ := G
                       refine arm_appendR rfl _ _ 22 50 rfl _ 3 48 tu22 info50b rfl (by decide) v1 stk.items.length (icellsL stk.items As) (icells ⟨at_, false, b2⟩ A17 c17) rfl hown ⟨b19, 0, none⟩ 1 1 rfl rfl (fun i u hu => by rw [Addr.add_mid, A19.out.cell, Nat.zero_add]; exact hu) (one_icells _ _ _) (by have := HBD.out.2.2.2.2.2.1; show (stk.items.length + 1) * 48 ≤ _; omega) (by have := HBD.out.2.2.2.2.2.1; show stk.items.length + 1 ≤ _; omega) ?_
                       intro v20 W20 hV hO hq
                       have AS := Aside0.mk (And.intro hAs (And.intro hown hinfo))
                       have V20 := Aside0.mk hV
                       have O20 := Aside0.mk hO
                       have Q20 := Aside0.mk hq
                       have L20 := Aside0.mk (show At W20 B.bl 22 [v1] from hO.at_ S19.out.mem.lv.lt (fun h => by have h1 := S19.out.dy _ (S19.out.mem.its.fresh _ h); have h2 := S19.out.mem.ord; omega) S19.out.mem.lv)
                       have OV20 := Aside0.mk (show v20.oneCell' = true by obtain ⟨A', c', hv, _⟩ := hV.shape; rw [hv]; rfl)
                       clear hAs hown hinfo hV hO hq)
                    | (refine arm_store1 rfl 22 _ _ rfl ⟨B.bl, 0, none⟩ rfl v20 rfl v1 (by rw [L20.out.cell]; rfl) (L20.out.frozen 0) size22 rfl OV20.out ?_
                       intro W21 hWW
                       have hO : Only (· = B.bl) W20.heap.size W20 W21 := by subst hWW; exact Only.setCell (S := (· = B.bl)) (a := ⟨B.bl, 0, none⟩) (Only.refl _ _ _) (.inl rfl) _
                       have hL : At W21 B.bl 22 [v20] := by subst hWW; exact L20.out.setCell 0 _
                       have S21 := Aside0.mk (S19.out.push (x := ⟨at_, false, b2⟩) AS.out.1 AS.out.2.1 AS.out.2.2 V20.out (R17.out.1) O20.out Q20.out (fun hne => by
                         obtain ⟨ad, q1, q2, q3, q4⟩ := D18.out hne
                         have h1 := G17.out
                         exact ⟨ad, q1, ⟨Or.inr (by omega), fun hx => hx.elim (fun e => by have e' : ge = ad.block := Option.some.inj e; omega) id⟩, Nat.lt_of_lt_of_le q3 B19.out.size, fun e => by have := V1L.out _ e; omega, fun k hk => by rw [B19.out.cell (by rw [add_block]; exact q3)]; exact q4 k hk⟩) hL hO (fun _ h => h.elim) (S19.out.mem.hst.off (Nat.le_refl _)))
                       clear hWW hO hL)
                    | fail)
                go_roundg (ys.length - (k + 1))
                case measure => have := HJ.out; omega
                case rel => exact ⟨k + 1, n', _, v20, ⟨by have := HJ.out; omega⟩, by go_num, ⟨by have := HN.out; omega⟩, R2, S21⟩
          · rw [if_neg he2] at hr
            simp only [Option.some.injEq, Prod.mk.injEq] at hr
            have he21 : (e2 == 0) = false := beq_eq_false_iff_ne.2 he2
            have he22 : (e2 != 0) = true := by rw [bne, he21]; rfl
            have EQ := Aside0.mk hr
            clear hr
            by_cases hp : p.toList = []
            · have hp1 : (p.toList == []) = true := by rw [hp]; rfl
              have hat : at_ = nm := by rw [ATX.out]; unfold atP; rw [if_pos hp]
              subst hat
              clear hp
              go_wp2_with (first
                  | (refine arm_load_row rfl 101 _ rfl ge (k * 34) rfl (ecells x) ROW.out row101 (by rw [ecells_len XD.out]; exact size101) ?_
                     intro v43 hv
                     have V43 := Aside0.mk hv
                     clear hv)
                  | (refine arm_alloc rfl 101 rfl _ _ info101 ?_; intro W15 b15 hb hWW
                     have hN : At W15 b15 101 (ecells ⟨ByteArray.empty, 0, zeroD⟩) := by subst hWW hb; exact At.new _ _ _
                     have hBB : Below wr.heap.size wr W15 := by subst hWW; exact (Below.refl _ _).alloc (Nat.le_refl _) _
                     have F15 := Aside0.mk (HS.out.mem.hst.off (b := b15) (by omega))
                     have L15 := Aside0.mk (show w.heap.size ≤ b15 ∧ wr.heap.size ≤ b15 from ⟨by rw [hb]; exact HS.out.only.size, by omega⟩)
                     have S15 := Aside0.mk ((HS.out.apart L15.out.2).below hBB)
                     have N15 := Aside0.mk hN
                     clear hN hb hWW hBB)
                  | (refine arm_store_row rfl 101 _ _ rfl b15 101 _ (ecells x) rfl V43.out N15.out (by rw [ecells_len XD.out]; rfl) (by rw [ecells_len XD.out]; exact size101) (one_ecells x) ?_
                     intro W16 hWW
                     have hO : Only (· = b15) W15.heap.size W15 W16 := by subst hWW; exact Only.setRow (S := (· = b15)) (Only.refl _ _ _) (.inl rfl) _
                     have hN : At W16 b15 101 (ecells x) := by subst hWW; exact N15.out.setRow _
                     have kn : W16.cell? ⟨b15, 0, none⟩ = some (.string at_) := by rw [hN.cell, NMX.out]; rfl
                     have kk : W16.cell? ⟨b15, 1, none⟩ = some (.int .i64 kd) := by rw [hN.cell, ← KX.out]; rfl
                     have S16 := Aside0.mk (S15.out.write rfl L15.out.1 F15.out hO)
                     have kl : W16.cell? ⟨B.bl, 0, none⟩ = some v1 := by rw [S16.out.mem.lv.cell]; rfl
                     have kg : W16.cell? ⟨B.bg, 0, none⟩ = some (.func (.func 84) #[] #[.pointer (some ⟨B.bd, 0, none⟩), .pointer (some ⟨B.bn, 0, none⟩), .pointer (some ⟨B.bsv, 0, none⟩)]) := by rw [S16.out.mem.gf.cell]; rfl
                     have N16 := Aside0.mk hN
                     have DN := Aside0.mk hN
                     clear hWW hO hN)
                  | (refine arm_load_row rfl 27 _ rfl b15 2 rfl (x.dig.map bv) (DN.out.rangeAt_eq 2 rfl) (by kernel_rfl) (by rw [List.length_map, XD.out]; exact size27) ?_
                     intro v74 hv0
                     have hv : v74 = xd := hv0.trans XV.out.symm
                     clear hv0
                     subst v74)
                  | (go_at_call 84
                     have hcall := lget_calls W16 B.bd B.bn B.bsv B.s B.bm depth stk.nodes (deep + 1) stk.σ M x.dig S16.out.mem.dep S16.out.mem.nod S16.out.mem.sv S16.out.mem.hst S16.out.mem.offn ⟨S16.out.mem.nn.2.2.2.2.2.2.1, S16.out.mem.nn.2.2.2.2.2.2.2, S16.out.mem.nn.2.1, S16.out.mem.nn.1⟩ XD.out ⟨HBD.out.2.2.2.1, HBD.out.2.2.2.2.1⟩ hnb2
                     rw [GX.out, ← XV.out] at hcall
                     refine hcall.mono ?_
                     rintro e w17 ⟨v17, rfl, hv1, hv2, hH17, hn17, hO17⟩
                     obtain ⟨A17, c17, hv17, hc17, hr17, ho17⟩ := hv1.rdl
                     subst hv17
                     have R17 := Aside0.mk (And.intro hc17 hr17)
                     have S17 := Aside0.mk ((S16.out.got hH17 hn17 hO17).drop)
                     have Q17 := Aside0.mk (show b2 ≠ [] → ∃ ad, A17 = some ad ∧ W16.heap.size ≤ ad.block from fun hne => by
                       obtain ⟨ad, q1, q2⟩ := ho17 hne
                       exact ⟨ad, q1, hv2 _ q2⟩)
                     have V1L := Aside0.mk (show ∀ k, v1.ownBlock = some k → k < W16.heap.size from fun k hk => (S16.out.v1x hk).2)
                     have G17 := Aside0.mk (show w.heap.size ≤ W16.heap.size ∧ ge < W16.heap.size from ⟨S16.out.only.size, S16.out.ents.lt rfl⟩)
                     have kf : w17.cell? ⟨B.blf, 0, none⟩ = some (.int .i64 stk.left) := by rw [S17.out.mem.lf.cell]; rfl
                     have ff : w17.frozen? ⟨B.blf, 0, none⟩ = false := S17.out.mem.lf.frozen _
                     clear hcall hv1 hv2 hH17 hn17 hO17 hc17 hr17 ho17 kl kg kn kk)
                  | fail)
              go_ret
              refine ⟨by rw [← EQ.out.1]; rfl, v1, ?_, S17.out.only, S17.out.vown⟩
              rw [← EQ.out.2]
              exact S17.out.mem.mono (fun b _ hd => hd.1) (fun b hb => hb.elim (S17.out.dom b) (fun h1 => Nat.le_trans S17.out.bn h1))
            · have hp1 : (p.toList == []) = false := beq_eq_false_iff_ne.2 hp
              have HAT := Aside0.mk (show at_ = p ++ ⟨#[47]⟩ ++ nm by rw [ATX.out]; unfold atP; rw [if_neg hp]; rfl)
              have hcat1 : ∀ w, (binOp .add 9 (.string p) (.string ⟨#[47]⟩)).run Tryz.prog w = .ok (.string (p ++ ⟨#[47]⟩)) w := fun w => run_cat w p ⟨#[47]⟩ (by show p.size + 1 ≤ maxLen; unfold maxLen; omega)
              have hcat2 : ∀ w, (binOp .add 9 (.string (p ++ ⟨#[47]⟩)) (.string nm)).run Tryz.prog w = .ok (.string (p ++ ⟨#[47]⟩ ++ nm)) w := fun w => by
                have hz : (p ++ (⟨#[47]⟩ : ByteArray)).size = p.size + 1 := by rw [ByteArray.size_append]; rfl
                exact run_cat w (p ++ ⟨#[47]⟩) nm (by rw [hz]; unfold maxLen; omega)
              clear hp
              go_wp2_with (first
                  | (refine arm_load_row rfl 101 _ rfl ge (k * 34) rfl (ecells x) ROW.out row101 (by rw [ecells_len XD.out]; exact size101) ?_
                     intro v43 hv
                     have V43 := Aside0.mk hv
                     clear hv)
                  | (refine arm_alloc rfl 101 rfl _ _ info101 ?_; intro W15 b15 hb hWW
                     have hN : At W15 b15 101 (ecells ⟨ByteArray.empty, 0, zeroD⟩) := by subst hWW hb; exact At.new _ _ _
                     have hBB : Below wr.heap.size wr W15 := by subst hWW; exact (Below.refl _ _).alloc (Nat.le_refl _) _
                     have F15 := Aside0.mk (HS.out.mem.hst.off (b := b15) (by omega))
                     have L15 := Aside0.mk (show w.heap.size ≤ b15 ∧ wr.heap.size ≤ b15 from ⟨by rw [hb]; exact HS.out.only.size, by omega⟩)
                     have S15 := Aside0.mk ((HS.out.apart L15.out.2).below hBB)
                     have N15 := Aside0.mk hN
                     clear hN hb hWW hBB)
                  | (refine arm_store_row rfl 101 _ _ rfl b15 101 _ (ecells x) rfl V43.out N15.out (by rw [ecells_len XD.out]; rfl) (by rw [ecells_len XD.out]; exact size101) (one_ecells x) ?_
                     intro W16 hWW
                     have hO : Only (· = b15) W15.heap.size W15 W16 := by subst hWW; exact Only.setRow (S := (· = b15)) (Only.refl _ _ _) (.inl rfl) _
                     have hN : At W16 b15 101 (ecells x) := by subst hWW; exact N15.out.setRow _
                     have kn : W16.cell? ⟨b15, 0, none⟩ = some (.string nm) := by rw [hN.cell, NMX.out]; rfl
                     have kk : W16.cell? ⟨b15, 1, none⟩ = some (.int .i64 kd) := by rw [hN.cell, ← KX.out]; rfl
                     have S16 := Aside0.mk (S15.out.write rfl L15.out.1 F15.out hO)
                     have kl : W16.cell? ⟨B.bl, 0, none⟩ = some v1 := by rw [S16.out.mem.lv.cell]; rfl
                     have kg : W16.cell? ⟨B.bg, 0, none⟩ = some (.func (.func 84) #[] #[.pointer (some ⟨B.bd, 0, none⟩), .pointer (some ⟨B.bn, 0, none⟩), .pointer (some ⟨B.bsv, 0, none⟩)]) := by rw [S16.out.mem.gf.cell]; rfl
                     have N16 := Aside0.mk hN
                     have DN := Aside0.mk hN
                     clear hWW hO hN)
                  | (refine arm_load_row rfl 27 _ rfl b15 2 rfl (x.dig.map bv) (DN.out.rangeAt_eq 2 rfl) (by kernel_rfl) (by rw [List.length_map, XD.out]; exact size27) ?_
                     intro v74 hv0
                     have hv : v74 = xd := hv0.trans XV.out.symm
                     clear hv0
                     subst v74)
                  | (go_at_call 84
                     have hcall := lget_calls W16 B.bd B.bn B.bsv B.s B.bm depth stk.nodes (deep + 1) stk.σ M x.dig S16.out.mem.dep S16.out.mem.nod S16.out.mem.sv S16.out.mem.hst S16.out.mem.offn ⟨S16.out.mem.nn.2.2.2.2.2.2.1, S16.out.mem.nn.2.2.2.2.2.2.2, S16.out.mem.nn.2.1, S16.out.mem.nn.1⟩ XD.out ⟨HBD.out.2.2.2.1, HBD.out.2.2.2.2.1⟩ hnb2
                     rw [GX.out, ← XV.out] at hcall
                     refine hcall.mono ?_
                     rintro e w17 ⟨v17, rfl, hv1, hv2, hH17, hn17, hO17⟩
                     obtain ⟨A17, c17, hv17, hc17, hr17, ho17⟩ := hv1.rdl
                     subst hv17
                     have R17 := Aside0.mk (And.intro hc17 hr17)
                     have S17 := Aside0.mk ((S16.out.got hH17 hn17 hO17).drop)
                     have Q17 := Aside0.mk (show b2 ≠ [] → ∃ ad, A17 = some ad ∧ W16.heap.size ≤ ad.block from fun hne => by
                       obtain ⟨ad, q1, q2⟩ := ho17 hne
                       exact ⟨ad, q1, hv2 _ q2⟩)
                     have V1L := Aside0.mk (show ∀ k, v1.ownBlock = some k → k < W16.heap.size from fun k hk => (S16.out.v1x hk).2)
                     have G17 := Aside0.mk (show w.heap.size ≤ W16.heap.size ∧ ge < W16.heap.size from ⟨S16.out.only.size, S16.out.ents.lt rfl⟩)
                     have kf : w17.cell? ⟨B.blf, 0, none⟩ = some (.int .i64 stk.left) := by rw [S17.out.mem.lf.cell]; rfl
                     have ff : w17.frozen? ⟨B.blf, 0, none⟩ = false := S17.out.mem.lf.frozen _
                     clear hcall hv1 hv2 hH17 hn17 hO17 hc17 hr17 ho17 kl kg kn kk)
                  | fail)
              go_ret
              refine ⟨by rw [← EQ.out.1]; rfl, v1, ?_, S17.out.only, S17.out.vown⟩
              rw [← EQ.out.2]
              exact S17.out.mem.mono (fun b _ hd => hd.1) (fun b hb => hb.elim (S17.out.dom b) (fun h1 => Nat.le_trans S17.out.bn h1))
      · obtain rfl : k = ys.length := by have := HJ.out; omega
        rw [List.drop_length] at hr
        simp only [Option.some.injEq, Prod.mk.injEq] at hr
        have EQ := Aside0.mk hr
        clear hr
        go_wp2_with fail
        go_ret
        refine ⟨by rw [← EQ.out.1]; rfl, v1, ?_, HS.out.only, HS.out.vown⟩
        rw [← EQ.out.2]
        exact HS.out.mem.mono (fun b _ hd => hd.1) (fun b hb => hb.elim (HS.out.dom b) (fun h1 => Nat.le_trans HS.out.bn h1))
  · rw [if_neg he] at hM
    simp only [Option.some.injEq, Prod.mk.injEq] at hM
    have EQ := Aside0.mk hM
    have he1 : (e1 == 0) = false := beq_eq_false_iff_ne.2 he
    have he2 : (e1 != 0) = true := by rw [bne, he1]; rfl
    clear hM he
    go_enter Tryz.func86, Tryz.ntmps86
    go_wp2_with (first
      | (refine arm_box rfl 27 _ rfl (d.map bv) DV.out ?_; intro W8 b8 hb hWW
         have hB : Below w.heap.size w W8 := by subst hWW; exact (Below.refl _ _).alloc (Nat.le_refl _) _
         have hN : At W8 b8 27 (d.map bv) := by subst hWW hb; exact At.new _ _ _
         have M8 := Aside0.mk (HW.out.below hB)
         have kg : W8.cell? ⟨B.bg, 0, none⟩ = some (.func (.func 84) #[] #[.pointer (some ⟨B.bd, 0, none⟩), .pointer (some ⟨B.bn, 0, none⟩), .pointer (some ⟨B.bsv, 0, none⟩)]) := by rw [M8.out.gf.cell]; rfl
         have N8 := Aside0.mk hN
         have B8 := Aside0.mk hB
         clear hb hWW hB hN)
      | (refine arm_load_row rfl 27 _ rfl b8 0 rfl (d.map bv) N8.out.rangeAll (by kernel_rfl) (by rw [List.length_map, HD.out]; exact size27) ?_
         intro v22 hv0
         have hv : v22 = dv := hv0.trans DV.out.symm
         clear hv0
         subst v22)
      | (go_at_call 84
         have hcall := lget_calls W8 B.bd B.bn B.bsv B.s B.bm depth st.nodes deep st.σ M d M8.out.dep M8.out.nod M8.out.sv M8.out.hst M8.out.offn ⟨M8.out.nn.2.2.2.2.2.2.1, M8.out.nn.2.2.2.2.2.2.2, M8.out.nn.2.1, M8.out.nn.1⟩ HD.out HGB.out hnb
         rw [GR.out, ← DV.out] at hcall
         refine hcall.mono ?_
         rintro e w9 ⟨v9, rfl, hv1, hv2, hH9, hn9, hO9⟩
         obtain ⟨A9, c9, hv9, hc9, hr9, _⟩ := hv1.rdl
         subst hv9
         have R9 := Aside0.mk hr9
         have M9 := Aside0.mk (M8.out.got hH9 hn9 hO9)
         have O9 := Aside0.mk (show Only (WrL B v) w.heap.size w w9 from (Only.of_below B8.out).trans (hO9.mono B8.out.size (fun b _ hs => hs.elim Or.inl (fun hs => Or.inr (Or.inl hs)))))
         clear hcall hv1 hv2 hH9 hn9 hO9 hr9 kg)
      | fail)
    go_ret
    refine ⟨by rw [← EQ.out.1]; rfl, v, ?_, O9.out, fun k hk => Or.inl hk⟩
    rw [← EQ.out.2]
    exact M9.out.mono (fun b _ hd => Or.inl hd) (fun b hb => hb.elim (HW.out.dom b) (fun h1 => Nat.le_trans HW.out.ord.2.2.2.2.2.2.2.2.2 h1))
end Go.Proofs.YtbpfmlckddhgbaaGreatDoor
/- tree: Load. -/
namespace Go.Proofs.YtbpfmlckddhgbaaGreatDoor
set_option linter.unusedVariables false
set_option linter.unusedSimpArgs false
open Go Go.RowKit Go.Maps Go.WideMaps Go.Proofs.YtbpfmlckddhgbaaGreatDoorW.PrintWords Go.Proofs.YtbpfmlckddhgbaaGreatDoorW.PrintLast
theorem info3 : (Tryz.prog.info? 3).map (fun i => (i.zero, i.size)) = some (some (.int .i64 0), 1) := by kernel_rfl
theorem min_le (n m : Int) (h : n ≤ m) (w : World) : (Builtin.min_ #[3, 3] 3 #[.int .i64 n, .int .i64 m]).run Tryz.prog w = .ok (.int .i64 n) w := by
  simp only [Builtin.min_, Builtin.min2, List.foldlM]
  have : (if m < n then m else n) = n := by split <;> omega
  rw [this]
  rfl
theorem size143 : (Tryz.prog.info? 143).map (·.size) = some 1 := by kernel_rfl
theorem size144 : (Tryz.prog.info? 144).map (·.size) = some 1 := by kernel_rfl
theorem info22 : (Tryz.prog.info? 22).map (fun i => (i.zero, i.size)) = some (some (.slice none 0 0), 1) := by kernel_rfl
set_option maxRecDepth 8000 in
set_option maxHeartbeats 1000000 in
theorem load_calls (w : World) (s bm : Nat) (σ : Sto) (M : MapF) (d : List UInt8) (rn rd rb : Int) (dec : List UInt8 → Option (List Ent)) (f : Nat) (eF : Int) (stF : LSta) (hdec : DecOk dec) (hH : HSt w s bm σ M) (hd : d.length = 32) (hg : 0 ≤ σ.gets ∧ σ.gets < 4611686018427387904)
    (hr : 0 ≤ rn ∧ rn ≤ 65536 ∧ 0 ≤ rd ∧ rd ≤ 32 ∧ 0 ≤ rb ∧ rb ≤ 67108864) (hM : walkL dec rd f ⟨#[]⟩ d 0 { nodes := rn, left := rb, σ := σ, items := [] } = some (eF, stF)) :
    Calls Tryz.prog 24 #[.pointer (some ⟨s, 0, none⟩), digV d, .agg #[.int .i64 rn, .int .i64 rd, .int .i64 rb]] w fun e w' => ∃ v, e = .returned (.tuple #[v, .int .i64 eF]) ∧ (eF = 0 → ItRow w' (fun b => w.heap.size ≤ b) v stF.items) ∧ (eF ≠ 0 → v = .slice none 0 0) ∧ HSt w' s bm stF.σ M ∧ Only (· = s) w.heap.size w w' := by
  have HH := Aside0.mk hH
  have HD := Aside0.mk hd
  have HM := Aside0.mk hM
  obtain ⟨dv, hdv⟩ : ∃ dv, dv = digV d := ⟨_, rfl⟩
  rw [← hdv]
  have DV := Aside0.mk hdv
  have HDEC := Aside0.mk hdec
  have HG := Aside0.mk hg
  have hm1 : ∀ w, (Builtin.min_ #[3, 3] 3 #[.int .i64 rd, .int .i64 32]).run Tryz.prog w = .ok (.int .i64 rd) w := fun w => min_le _ _ (by omega) w
  have hm2 : ∀ w, (Builtin.min_ #[3, 3] 3 #[.int .i64 rn, .int .i64 65536]).run Tryz.prog w = .ok (.int .i64 rn) w := fun w => min_le _ _ (by omega) w
  have hm3 : ∀ w, (Builtin.min_ #[3, 3] 3 #[.int .i64 rb, .int .i64 67108864]).run Tryz.prog w = .ok (.int .i64 rb) w := fun w => min_le _ _ (by omega) w
  clear hH hd hM hdv hdec hg
  go_enter Tryz.func24, Tryz.ntmps24
  go_wp2_with (first
    | (refine arm_box rfl 27 _ rfl (d.map bv) DV.out ?_; intro W4 b4 hb hW
       have N4 := Aside0.mk (show At W4 b4 27 (d.map bv) by subst hW hb; exact At.new _ _ _)
       have L4 := Aside0.mk (show b4 = w.heap.size + 1 by rw [hb, World.size_alloc])
       have B4 := Aside0.mk (show Below w.heap.size w W4 by subst hW; exact ((Below.refl _ _).alloc (Nat.le_refl _) _).alloc (by rw [World.size_alloc]; omega) _)
       have N3 := Aside0.mk (show At W4 w.heap.size 38 [.pointer (some ⟨s, 0, none⟩)] by subst hW; exact (At.new _ _ _).alloc _)
       clear hb hW)
    | (refine arm_box rfl 47 _ rfl [.int .i64 rn, .int .i64 rd, .int .i64 rb] rfl ?_; intro W5 b5 hb hW
       have hB : Below W4.heap.size W4 W5 := by subst hW; exact (Below.refl _ _).alloc (Nat.le_refl _) _
       have hN : At W5 b5 47 [.int .i64 rn, .int .i64 rd, .int .i64 rb] := by subst hW hb; exact At.new _ _ _
       have N4 := Aside0.mk (N4.out.below hB N4.out.lt)
       have N3 := Aside0.mk (N3.out.below hB N3.out.lt)
       have B4 := Aside0.mk (B4.out.trans (hB.mono B4.out.size))
       have L5 := Aside0.mk (show b5 = W4.heap.size from hb)
       have N5 := Aside0.mk hN
       clear hb hW hB hN)
    | (refine arm_alloc rfl 22 rfl _ _ info22 ?_; intro W8 b8 hb hW
       have hB : Below W5.heap.size W5 W8 := by subst hW; exact (Below.refl _ _).alloc (Nat.le_refl _) _
       have N8 := Aside0.mk (show At W8 b8 22 [.slice none 0 0] by subst hW hb; exact At.new _ _ _)
       have L8 := Aside0.mk (show ∀ {n : Nat}, W8.heap.size ≤ n → w.heap.size < b8 ∧ b8 < W8.heap.size ∧ W8.heap.size ≤ n ∧ b4 < W8.heap.size ∧ w.heap.size ≤ b4 from fun h => by have h1 := N4.out.lt; have h2 := N8.out.lt; have h3 := L4.out; have h4 := hB.size; omega)
       have N5 := Aside0.mk (N5.out.below hB N5.out.lt)
       have N4 := Aside0.mk (N4.out.below hB N4.out.lt)
       have N3 := Aside0.mk (N3.out.below hB N3.out.lt)
       have B4 := Aside0.mk (B4.out.trans (hB.mono B4.out.size))
       have k0 : W8.cell? ⟨b5, 0, none⟩ = some (.int .i64 rn) := by rw [N5.out.cell]; rfl
       have k1 : W8.cell? ⟨b5, 1, none⟩ = some (.int .i64 rd) := by rw [N5.out.cell]; rfl
       have k2 : W8.cell? ⟨b5, 2, none⟩ = some (.int .i64 rb) := by rw [N5.out.cell]; rfl
       clear hb hW hB)
    | fail)
  have hall : ∀ w', Below W8.heap.size W8 w' → w'.cell? ⟨b5, 1, none⟩ = some (.int .i64 rd) ∧ w'.cell? ⟨b5, 0, none⟩ = some (.int .i64 rn) ∧ w'.cell? ⟨b5, 2, none⟩ = some (.int .i64 rb) := by
    intro w' hB
    have h5 := N5.out.below hB N5.out.lt
    exact ⟨by rw [h5.cell]; rfl, by rw [h5.cell]; rfl, by rw [h5.cell]; rfl⟩
  have HALL := Aside0.mk hall
  clear hall k0 k1 k2
  refine takes_region (S := fun w' => Below W8.heap.size W8 w') (ds := []) [(0, true), (1, false), (2, true), (3, true), (4, false), (5, true), (6, true), (7, false), (8, true)] 6 (by kernel_rfl) rfl (by kernel_rfl) (fun _ _ dd _ _ h => by cases dd <;> exact h) (Below.refl _ _).drew
    #[true, true, true, true, true, true, true, true, true, false, false, false, false, false, false] (by kernel_rfl) ?_
  refine tk (N := some 15) (v := ?vv1) (a' := ?aa1) rfl rfl rfl ?hr1 ?ha1 ?nx1
  case hr1 => (intro w' hS; first | (go_simp; with_reducible rfl) | (obtain hS | hS := hS; (· cases hS); have hF := HALL.out w' hS; go_simp; with_reducible rfl))
  case ha1 => (simp only [Act.put, List.setIfInBounds_toArray, List.set_cons_zero, List.set_cons_succ]; rfl)
  refine tk (N := some 16) (v := ?vv2) (a' := ?aa2) rfl rfl rfl ?hr2 ?ha2 ?nx2
  case hr2 => (intro w' hS; first | (go_simp; with_reducible rfl) | (obtain hS | hS := hS; (· cases hS); have hF := HALL.out w' hS; go_simp; with_reducible rfl))
  case ha2 => (simp only [Act.put, List.setIfInBounds_toArray, List.set_cons_zero, List.set_cons_succ]; rfl)
  refine tk (N := some 17) (v := ?vv3) (a' := ?aa3) rfl rfl rfl ?hr3 ?ha3 ?nx3
  case hr3 => (intro w' hS; first | (go_simp; with_reducible rfl) | (obtain hS | hS := hS; (· cases hS); have hF := HALL.out w' hS; go_simp; with_reducible rfl))
  case ha3 => (simp only [Act.put, List.setIfInBounds_toArray, List.set_cons_zero, List.set_cons_succ]; rfl)
  refine tk (N := some 18) (v := ?vv4) (a' := ?aa4) rfl rfl rfl ?hr4 ?ha4 ?nx4
  case hr4 => (intro w' hS; first | (go_simp; with_reducible rfl) | (obtain hS | hS := hS; (· cases hS); have hF := HALL.out w' hS; go_simp; with_reducible rfl))
  case ha4 => (simp only [Act.put, List.setIfInBounds_toArray, List.set_cons_zero, List.set_cons_succ]; rfl)
  refine tk (N := some 19) (v := ?vv5) (a' := ?aa5) rfl rfl rfl ?hr5 ?ha5 ?nx5
  case hr5 => (intro w' hS; first | (go_simp; with_reducible rfl) | (obtain hS | hS := hS; (· cases hS); have hF := HALL.out w' hS; go_simp; with_reducible rfl))
  case ha5 => (simp only [Act.put, List.setIfInBounds_toArray, List.set_cons_zero, List.set_cons_succ]; rfl)
  refine tk (N := some 20) (v := ?vv6) (a' := ?aa6) rfl rfl rfl ?hr6 ?ha6 ?nx6
  case hr6 => (intro w' hS; first | (go_simp; with_reducible rfl) | (obtain hS | hS := hS; (· cases hS); have hF := HALL.out w' hS; go_simp; with_reducible rfl))
  case ha6 => (simp only [Act.put, List.setIfInBounds_toArray, List.set_cons_zero, List.set_cons_succ]; rfl)
  refine tk (N := some 21) (v := ?vv7) (a' := ?aa7) rfl rfl rfl ?hr7 ?ha7 ?nx7
  case hr7 => (intro w' hS; first | (go_simp; with_reducible rfl) | (obtain hS | hS := hS; (· cases hS); have hF := HALL.out w' hS; go_simp; with_reducible rfl))
  case ha7 => (simp only [Act.put, List.setIfInBounds_toArray, List.set_cons_zero, List.set_cons_succ]; rfl)
  refine tk (N := some 22) (v := ?vv8) (a' := ?aa8) rfl rfl rfl ?hr8 ?ha8 ?nx8
  case hr8 => (intro w' hS; first | (go_simp; with_reducible rfl) | (obtain hS | hS := hS; (· cases hS); have hF := HALL.out w' hS; go_simp; with_reducible rfl))
  case ha8 => (simp only [Act.put, List.setIfInBounds_toArray, List.set_cons_zero, List.set_cons_succ]; rfl)
  refine tk (N := some 23) (v := ?vv9) (a' := ?aa9) rfl rfl rfl ?hr9 ?ha9 ?nx9
  case hr9 => (intro w' hS; first | (go_simp; with_reducible rfl) | (obtain hS | hS := hS; (· cases hS); have hF := HALL.out w' hS; go_simp; with_reducible rfl))
  case ha9 => (simp only [Act.put, List.setIfInBounds_toArray, List.set_cons_zero, List.set_cons_succ]; rfl)
  refine takes_done ?_
  have HS := Aside0.mk (show Below W8.heap.size W8 W8.drew from (Below.refl _ _).drew)
  obtain ⟨X0, hX0⟩ : ∃ X0, X0 = W8.drew := ⟨_, rfl⟩
  rw [← hX0] at HS ⊢
  clear hX0
  refine join_ (σ := Nat × Nat × Nat × World) 3 #[true, true, true, true, true, true, true, true, true, true, true, true, false, false, false] (fun s => [(9, .pointer (some ⟨s.1, 0, none⟩)), (10, .pointer (some ⟨s.2.1, 0, none⟩)), (11, .pointer (some ⟨s.2.2.1, 0, none⟩))]) (fun s w' => w' = s.2.2.2 ∧ Below W8.heap.size W8 s.2.2.2 ∧ At s.2.2.2 s.1 3 [.int .i64 0] ∧ At s.2.2.2 s.2.1 3 [.int .i64 0] ∧ At s.2.2.2 s.2.2.1 3 [.int .i64 0] ∧ W8.heap.size ≤ s.1 ∧ W8.heap.size ≤ s.2.1 ∧ W8.heap.size ≤ s.2.2.1 ∧ s.1 ≠ s.2.1 ∧ s.1 ≠ s.2.2.1 ∧ s.2.1 ≠ s.2.2.1) ?_ (fun hc => ?_)
  rotate_left
  · try simp only [Go.Proofs.YtbpfmlckddhgbaaGreatDoorW.PrintLast.putAll, Act.put, List.setIfInBounds_toArray, List.set_cons_zero, List.set_cons_succ] at hc
    refine three_ (i := 9) (j := 10) (k := 11) (Ni := some 9) (Nj := some 10) (Nk := some 11) #[true, true, true, true, true, true, true, true, true, true, false, false, false, false, false] #[true, true, true, true, true, true, true, true, true, false, true, false, false, false, false] #[true, true, true, true, true, true, true, true, true, false, false, true, false, false, false] rfl rfl rfl rfl rfl rfl (by kernel_rfl) (by decide) (by decide) (by decide) (fun K hK => ?_) (fun K hK => ?_) (fun K hK => ?_)
    · rw [if_pos (by rfl)]
      refine wpo_alloc (some 9) rfl 3 rfl _ _ info3 ?_
      intro V1 b9 hb hW
      have hBs : Below X0.heap.size X0 V1 := by subst hW; exact (Below.refl _ _).alloc (Nat.le_refl _) _
      have N9 := Aside0.mk (show At V1 b9 3 [.int .i64 0] by subst hW hb; exact At.new _ _ _)
      have L9 := Aside0.mk (show W8.heap.size ≤ b9 by rw [hb]; exact HS.out.size)
      have HS := Aside0.mk (HS.out.trans (hBs.mono HS.out.size))
      clear hb hW hBs
      refine hK _ _ HS.out (fun _ => ?_)
      clear hK K
      refine frame_ (a' := ?aa10) ?ha10 ?nx10
      case ha10 =>
        simp only [Go.Proofs.YtbpfmlckddhgbaaGreatDoorW.PrintLast.putAll, Act.put, List.setIfInBounds_toArray, List.set_cons_zero, List.set_cons_succ]
        rfl
      refine two_ (i := 10) (j := 11) (Ni := some 10) (Nj := some 11) #[true, true, true, true, true, true, true, true, true, true, true, false, false, false, false] #[true, true, true, true, true, true, true, true, true, true, false, true, false, false, false] rfl rfl rfl rfl (by kernel_rfl) (by decide) (by decide) (fun K hK => ?_) (fun K hK => ?_)
      · rw [if_pos (by rfl)]
        refine wpo_alloc (some 10) rfl 3 rfl _ _ info3 ?_
        intro V2 b10 hb hW
        have hBs : Below V1.heap.size V1 V2 := by subst hW; exact (Below.refl _ _).alloc (Nat.le_refl _) _
        have N10 := Aside0.mk (show At V2 b10 3 [.int .i64 0] by subst hW hb; exact At.new _ _ _)
        have L10 := Aside0.mk (show W8.heap.size ≤ b10 by rw [hb]; exact HS.out.size)
        have E910 := Aside0.mk (show b9 ≠ b10 by have := N9.out.lt; omega)
        have N9 := Aside0.mk (N9.out.below hBs N9.out.lt)
        have HS := Aside0.mk (HS.out.trans (hBs.mono HS.out.size))
        clear hb hW hBs
        refine hK _ _ HS.out (fun _ => ?_)
        clear hK K
        refine frame_ (a' := ?aa11) ?ha11 ?nx11
        case ha11 =>
          simp only [Go.Proofs.YtbpfmlckddhgbaaGreatDoorW.PrintLast.putAll, Act.put, List.setIfInBounds_toArray, List.set_cons_zero, List.set_cons_succ]
          rfl
        refine one_ (i := 11) (N := some 11) #[true, true, true, true, true, true, true, true, true, true, true, true, false, false, false] rfl rfl (by kernel_rfl) (by decide) (fun K hK => ?_)
        rw [if_pos (by rfl)]
        refine wpo_alloc (some 11) rfl 3 rfl _ _ info3 ?_
        intro V3 b11 hb hW
        have hBs : Below V2.heap.size V2 V3 := by subst hW; exact (Below.refl _ _).alloc (Nat.le_refl _) _
        have N11 := Aside0.mk (show At V3 b11 3 [.int .i64 0] by subst hW hb; exact At.new _ _ _)
        have L11 := Aside0.mk (show W8.heap.size ≤ b11 by rw [hb]; exact HS.out.size)
        have E911 := Aside0.mk (show b9 ≠ b11 by have := N9.out.lt; omega)
        have N9 := Aside0.mk (N9.out.below hBs N9.out.lt)
        have E1011 := Aside0.mk (show b10 ≠ b11 by have := N10.out.lt; omega)
        have N10 := Aside0.mk (N10.out.below hBs N10.out.lt)
        have HS := Aside0.mk (HS.out.trans (hBs.mono HS.out.size))
        clear hb hW hBs
        refine hK _ _ HS.out (fun _ => ?_)
        clear hK K
        refine frame_ (a' := ?aa12) ?ha12 ?nx12
        case ha12 =>
          simp only [Go.Proofs.YtbpfmlckddhgbaaGreatDoorW.PrintLast.putAll, Act.put, List.setIfInBounds_toArray, List.set_cons_zero, List.set_cons_succ]
          rfl
        exact hc (b9, b10, b11, V3) V3 ⟨rfl, HS.out, N9.out, N10.out, N11.out, L9.out, L10.out, L11.out, E910.out, E911.out, E1011.out⟩
      · rw [if_pos (by rfl)]
        refine wpo_alloc (some 11) rfl 3 rfl _ _ info3 ?_
        intro V4 b11 hb hW
        have hBs : Below V1.heap.size V1 V4 := by subst hW; exact (Below.refl _ _).alloc (Nat.le_refl _) _
        have N11 := Aside0.mk (show At V4 b11 3 [.int .i64 0] by subst hW hb; exact At.new _ _ _)
        have L11 := Aside0.mk (show W8.heap.size ≤ b11 by rw [hb]; exact HS.out.size)
        have E911 := Aside0.mk (show b9 ≠ b11 by have := N9.out.lt; omega)
        have N9 := Aside0.mk (N9.out.below hBs N9.out.lt)
        have HS := Aside0.mk (HS.out.trans (hBs.mono HS.out.size))
        clear hb hW hBs
        refine hK _ _ HS.out (fun _ => ?_)
        clear hK K
        refine frame_ (a' := ?aa13) ?ha13 ?nx13
        case ha13 =>
          simp only [Go.Proofs.YtbpfmlckddhgbaaGreatDoorW.PrintLast.putAll, Act.put, List.setIfInBounds_toArray, List.set_cons_zero, List.set_cons_succ]
          rfl
        refine one_ (i := 10) (N := some 10) #[true, true, true, true, true, true, true, true, true, true, true, true, false, false, false] rfl rfl (by kernel_rfl) (by decide) (fun K hK => ?_)
        rw [if_pos (by rfl)]
        refine wpo_alloc (some 10) rfl 3 rfl _ _ info3 ?_
        intro V5 b10 hb hW
        have hBs : Below V4.heap.size V4 V5 := by subst hW; exact (Below.refl _ _).alloc (Nat.le_refl _) _
        have N10 := Aside0.mk (show At V5 b10 3 [.int .i64 0] by subst hW hb; exact At.new _ _ _)
        have L10 := Aside0.mk (show W8.heap.size ≤ b10 by rw [hb]; exact HS.out.size)
        have E910 := Aside0.mk (show b9 ≠ b10 by have := N9.out.lt; omega)
        have N9 := Aside0.mk (N9.out.below hBs N9.out.lt)
        have E1110 := Aside0.mk (show b11 ≠ b10 by have := N11.out.lt; omega)
        have N11 := Aside0.mk (N11.out.below hBs N11.out.lt)
        have HS := Aside0.mk (HS.out.trans (hBs.mono HS.out.size))
        clear hb hW hBs
        refine hK _ _ HS.out (fun _ => ?_)
        clear hK K
        refine frame_ (a' := ?aa14) ?ha14 ?nx14
        case ha14 =>
          simp only [Go.Proofs.YtbpfmlckddhgbaaGreatDoorW.PrintLast.putAll, Act.put, List.setIfInBounds_toArray, List.set_cons_zero, List.set_cons_succ]
          rfl
        exact hc (b9, b10, b11, V5) V5 ⟨rfl, HS.out, N9.out, N10.out, N11.out, L9.out, L10.out, L11.out, E910.out, E911.out, (Ne.symm E1110.out)⟩
    · rw [if_pos (by rfl)]
      refine wpo_alloc (some 10) rfl 3 rfl _ _ info3 ?_
      intro V6 b10 hb hW
      have hBs : Below X0.heap.size X0 V6 := by subst hW; exact (Below.refl _ _).alloc (Nat.le_refl _) _
      have N10 := Aside0.mk (show At V6 b10 3 [.int .i64 0] by subst hW hb; exact At.new _ _ _)
      have L10 := Aside0.mk (show W8.heap.size ≤ b10 by rw [hb]; exact HS.out.size)
      have HS := Aside0.mk (HS.out.trans (hBs.mono HS.out.size))
      clear hb hW hBs
      refine hK _ _ HS.out (fun _ => ?_)
      clear hK K
      refine frame_ (a' := ?aa15) ?ha15 ?nx15
      case ha15 =>
        simp only [Go.Proofs.YtbpfmlckddhgbaaGreatDoorW.PrintLast.putAll, Act.put, List.setIfInBounds_toArray, List.set_cons_zero, List.set_cons_succ]
        rfl
      refine two_ (i := 9) (j := 11) (Ni := some 9) (Nj := some 11) #[true, true, true, true, true, true, true, true, true, true, true, false, false, false, false] #[true, true, true, true, true, true, true, true, true, false, true, true, false, false, false] rfl rfl rfl rfl (by kernel_rfl) (by decide) (by decide) (fun K hK => ?_) (fun K hK => ?_)
      · rw [if_pos (by rfl)]
        refine wpo_alloc (some 9) rfl 3 rfl _ _ info3 ?_
        intro V7 b9 hb hW
        have hBs : Below V6.heap.size V6 V7 := by subst hW; exact (Below.refl _ _).alloc (Nat.le_refl _) _
        have N9 := Aside0.mk (show At V7 b9 3 [.int .i64 0] by subst hW hb; exact At.new _ _ _)
        have L9 := Aside0.mk (show W8.heap.size ≤ b9 by rw [hb]; exact HS.out.size)
        have E109 := Aside0.mk (show b10 ≠ b9 by have := N10.out.lt; omega)
        have N10 := Aside0.mk (N10.out.below hBs N10.out.lt)
        have HS := Aside0.mk (HS.out.trans (hBs.mono HS.out.size))
        clear hb hW hBs
        refine hK _ _ HS.out (fun _ => ?_)
        clear hK K
        refine frame_ (a' := ?aa16) ?ha16 ?nx16
        case ha16 =>
          simp only [Go.Proofs.YtbpfmlckddhgbaaGreatDoorW.PrintLast.putAll, Act.put, List.setIfInBounds_toArray, List.set_cons_zero, List.set_cons_succ]
          rfl
        refine one_ (i := 11) (N := some 11) #[true, true, true, true, true, true, true, true, true, true, true, true, false, false, false] rfl rfl (by kernel_rfl) (by decide) (fun K hK => ?_)
        rw [if_pos (by rfl)]
        refine wpo_alloc (some 11) rfl 3 rfl _ _ info3 ?_
        intro V8 b11 hb hW
        have hBs : Below V7.heap.size V7 V8 := by subst hW; exact (Below.refl _ _).alloc (Nat.le_refl _) _
        have N11 := Aside0.mk (show At V8 b11 3 [.int .i64 0] by subst hW hb; exact At.new _ _ _)
        have L11 := Aside0.mk (show W8.heap.size ≤ b11 by rw [hb]; exact HS.out.size)
        have E1011 := Aside0.mk (show b10 ≠ b11 by have := N10.out.lt; omega)
        have N10 := Aside0.mk (N10.out.below hBs N10.out.lt)
        have E911 := Aside0.mk (show b9 ≠ b11 by have := N9.out.lt; omega)
        have N9 := Aside0.mk (N9.out.below hBs N9.out.lt)
        have HS := Aside0.mk (HS.out.trans (hBs.mono HS.out.size))
        clear hb hW hBs
        refine hK _ _ HS.out (fun _ => ?_)
        clear hK K
        refine frame_ (a' := ?aa17) ?ha17 ?nx17
        case ha17 =>
          simp only [Go.Proofs.YtbpfmlckddhgbaaGreatDoorW.PrintLast.putAll, Act.put, List.setIfInBounds_toArray, List.set_cons_zero, List.set_cons_succ]
          rfl
        exact hc (b9, b10, b11, V8) V8 ⟨rfl, HS.out, N9.out, N10.out, N11.out, L9.out, L10.out, L11.out, (Ne.symm E109.out), E911.out, E1011.out⟩
      · rw [if_pos (by rfl)]
        refine wpo_alloc (some 11) rfl 3 rfl _ _ info3 ?_
        intro V9 b11 hb hW
        have hBs : Below V6.heap.size V6 V9 := by subst hW; exact (Below.refl _ _).alloc (Nat.le_refl _) _
        have N11 := Aside0.mk (show At V9 b11 3 [.int .i64 0] by subst hW hb; exact At.new _ _ _)
        have L11 := Aside0.mk (show W8.heap.size ≤ b11 by rw [hb]; exact HS.out.size)
        have E1011 := Aside0.mk (show b10 ≠ b11 by have := N10.out.lt; omega)
        have N10 := Aside0.mk (N10.out.below hBs N10.out.lt)
        have HS := Aside0.mk (HS.out.trans (hBs.mono HS.out.size))
        clear hb hW hBs
        refine hK _ _ HS.out (fun _ => ?_)
        clear hK K
        refine frame_ (a' := ?aa18) ?ha18 ?nx18
        case ha18 =>
          simp only [Go.Proofs.YtbpfmlckddhgbaaGreatDoorW.PrintLast.putAll, Act.put, List.setIfInBounds_toArray, List.set_cons_zero, List.set_cons_succ]
          rfl
        refine one_ (i := 9) (N := some 9) #[true, true, true, true, true, true, true, true, true, true, true, true, false, false, false] rfl rfl (by kernel_rfl) (by decide) (fun K hK => ?_)
        rw [if_pos (by rfl)]
        refine wpo_alloc (some 9) rfl 3 rfl _ _ info3 ?_
        intro V10 b9 hb hW
        have hBs : Below V9.heap.size V9 V10 := by subst hW; exact (Below.refl _ _).alloc (Nat.le_refl _) _
        have N9 := Aside0.mk (show At V10 b9 3 [.int .i64 0] by subst hW hb; exact At.new _ _ _)
        have L9 := Aside0.mk (show W8.heap.size ≤ b9 by rw [hb]; exact HS.out.size)
        have E109 := Aside0.mk (show b10 ≠ b9 by have := N10.out.lt; omega)
        have N10 := Aside0.mk (N10.out.below hBs N10.out.lt)
        have E119 := Aside0.mk (show b11 ≠ b9 by have := N11.out.lt; omega)
        have N11 := Aside0.mk (N11.out.below hBs N11.out.lt)
        have HS := Aside0.mk (HS.out.trans (hBs.mono HS.out.size))
        clear hb hW hBs
        refine hK _ _ HS.out (fun _ => ?_)
        clear hK K
        refine frame_ (a' := ?aa19) ?ha19 ?nx19
        case ha19 =>
          simp only [Go.Proofs.YtbpfmlckddhgbaaGreatDoorW.PrintLast.putAll, Act.put, List.setIfInBounds_toArray, List.set_cons_zero, List.set_cons_succ]
          rfl
        exact hc (b9, b10, b11, V10) V10 ⟨rfl, HS.out, N9.out, N10.out, N11.out, L9.out, L10.out, L11.out, (Ne.symm E109.out), (Ne.symm E119.out), E1011.out⟩
    · rw [if_pos (by rfl)]
      refine wpo_alloc (some 11) rfl 3 rfl _ _ info3 ?_
      intro V11 b11 hb hW
      have hBs : Below X0.heap.size X0 V11 := by subst hW; exact (Below.refl _ _).alloc (Nat.le_refl _) _
      have N11 := Aside0.mk (show At V11 b11 3 [.int .i64 0] by subst hW hb; exact At.new _ _ _)
      have L11 := Aside0.mk (show W8.heap.size ≤ b11 by rw [hb]; exact HS.out.size)
      have HS := Aside0.mk (HS.out.trans (hBs.mono HS.out.size))
      clear hb hW hBs
      refine hK _ _ HS.out (fun _ => ?_)
      clear hK K
      refine frame_ (a' := ?aa20) ?ha20 ?nx20
      case ha20 =>
        simp only [Go.Proofs.YtbpfmlckddhgbaaGreatDoorW.PrintLast.putAll, Act.put, List.setIfInBounds_toArray, List.set_cons_zero, List.set_cons_succ]
        rfl
      refine two_ (i := 9) (j := 10) (Ni := some 9) (Nj := some 10) #[true, true, true, true, true, true, true, true, true, true, false, true, false, false, false] #[true, true, true, true, true, true, true, true, true, false, true, true, false, false, false] rfl rfl rfl rfl (by kernel_rfl) (by decide) (by decide) (fun K hK => ?_) (fun K hK => ?_)
      · rw [if_pos (by rfl)]
        refine wpo_alloc (some 9) rfl 3 rfl _ _ info3 ?_
        intro V12 b9 hb hW
        have hBs : Below V11.heap.size V11 V12 := by subst hW; exact (Below.refl _ _).alloc (Nat.le_refl _) _
        have N9 := Aside0.mk (show At V12 b9 3 [.int .i64 0] by subst hW hb; exact At.new _ _ _)
        have L9 := Aside0.mk (show W8.heap.size ≤ b9 by rw [hb]; exact HS.out.size)
        have E119 := Aside0.mk (show b11 ≠ b9 by have := N11.out.lt; omega)
        have N11 := Aside0.mk (N11.out.below hBs N11.out.lt)
        have HS := Aside0.mk (HS.out.trans (hBs.mono HS.out.size))
        clear hb hW hBs
        refine hK _ _ HS.out (fun _ => ?_)
        clear hK K
        refine frame_ (a' := ?aa21) ?ha21 ?nx21
        case ha21 =>
          simp only [Go.Proofs.YtbpfmlckddhgbaaGreatDoorW.PrintLast.putAll, Act.put, List.setIfInBounds_toArray, List.set_cons_zero, List.set_cons_succ]
          rfl
        refine one_ (i := 10) (N := some 10) #[true, true, true, true, true, true, true, true, true, true, true, true, false, false, false] rfl rfl (by kernel_rfl) (by decide) (fun K hK => ?_)
        rw [if_pos (by rfl)]
        refine wpo_alloc (some 10) rfl 3 rfl _ _ info3 ?_
        intro V13 b10 hb hW
        have hBs : Below V12.heap.size V12 V13 := by subst hW; exact (Below.refl _ _).alloc (Nat.le_refl _) _
        have N10 := Aside0.mk (show At V13 b10 3 [.int .i64 0] by subst hW hb; exact At.new _ _ _)
        have L10 := Aside0.mk (show W8.heap.size ≤ b10 by rw [hb]; exact HS.out.size)
        have E1110 := Aside0.mk (show b11 ≠ b10 by have := N11.out.lt; omega)
        have N11 := Aside0.mk (N11.out.below hBs N11.out.lt)
        have E910 := Aside0.mk (show b9 ≠ b10 by have := N9.out.lt; omega)
        have N9 := Aside0.mk (N9.out.below hBs N9.out.lt)
        have HS := Aside0.mk (HS.out.trans (hBs.mono HS.out.size))
        clear hb hW hBs
        refine hK _ _ HS.out (fun _ => ?_)
        clear hK K
        refine frame_ (a' := ?aa22) ?ha22 ?nx22
        case ha22 =>
          simp only [Go.Proofs.YtbpfmlckddhgbaaGreatDoorW.PrintLast.putAll, Act.put, List.setIfInBounds_toArray, List.set_cons_zero, List.set_cons_succ]
          rfl
        exact hc (b9, b10, b11, V13) V13 ⟨rfl, HS.out, N9.out, N10.out, N11.out, L9.out, L10.out, L11.out, E910.out, (Ne.symm E119.out), (Ne.symm E1110.out)⟩
      · rw [if_pos (by rfl)]
        refine wpo_alloc (some 10) rfl 3 rfl _ _ info3 ?_
        intro V14 b10 hb hW
        have hBs : Below V11.heap.size V11 V14 := by subst hW; exact (Below.refl _ _).alloc (Nat.le_refl _) _
        have N10 := Aside0.mk (show At V14 b10 3 [.int .i64 0] by subst hW hb; exact At.new _ _ _)
        have L10 := Aside0.mk (show W8.heap.size ≤ b10 by rw [hb]; exact HS.out.size)
        have E1110 := Aside0.mk (show b11 ≠ b10 by have := N11.out.lt; omega)
        have N11 := Aside0.mk (N11.out.below hBs N11.out.lt)
        have HS := Aside0.mk (HS.out.trans (hBs.mono HS.out.size))
        clear hb hW hBs
        refine hK _ _ HS.out (fun _ => ?_)
        clear hK K
        refine frame_ (a' := ?aa23) ?ha23 ?nx23
        case ha23 =>
          simp only [Go.Proofs.YtbpfmlckddhgbaaGreatDoorW.PrintLast.putAll, Act.put, List.setIfInBounds_toArray, List.set_cons_zero, List.set_cons_succ]
          rfl
        refine one_ (i := 9) (N := some 9) #[true, true, true, true, true, true, true, true, true, true, true, true, false, false, false] rfl rfl (by kernel_rfl) (by decide) (fun K hK => ?_)
        rw [if_pos (by rfl)]
        refine wpo_alloc (some 9) rfl 3 rfl _ _ info3 ?_
        intro V15 b9 hb hW
        have hBs : Below V14.heap.size V14 V15 := by subst hW; exact (Below.refl _ _).alloc (Nat.le_refl _) _
        have N9 := Aside0.mk (show At V15 b9 3 [.int .i64 0] by subst hW hb; exact At.new _ _ _)
        have L9 := Aside0.mk (show W8.heap.size ≤ b9 by rw [hb]; exact HS.out.size)
        have E119 := Aside0.mk (show b11 ≠ b9 by have := N11.out.lt; omega)
        have N11 := Aside0.mk (N11.out.below hBs N11.out.lt)
        have E109 := Aside0.mk (show b10 ≠ b9 by have := N10.out.lt; omega)
        have N10 := Aside0.mk (N10.out.below hBs N10.out.lt)
        have HS := Aside0.mk (HS.out.trans (hBs.mono HS.out.size))
        clear hb hW hBs
        refine hK _ _ HS.out (fun _ => ?_)
        clear hK K
        refine frame_ (a' := ?aa24) ?ha24 ?nx24
        case ha24 =>
          simp only [Go.Proofs.YtbpfmlckddhgbaaGreatDoorW.PrintLast.putAll, Act.put, List.setIfInBounds_toArray, List.set_cons_zero, List.set_cons_succ]
          rfl
        exact hc (b9, b10, b11, V15) V15 ⟨rfl, HS.out, N9.out, N10.out, N11.out, L9.out, L10.out, L11.out, (Ne.symm E109.out), (Ne.symm E119.out), (Ne.symm E1110.out)⟩
  rintro ⟨b9, b10, b11, Y0⟩ w' ⟨rfl, hY, h9, h10, h11, l9, l10, l11, e1, e2, e3⟩
  simp only at hY h9 h10 h11 l9 l10 l11 e1 e2 e3
  have HS := Aside0.mk hY
  have N9 := Aside0.mk h9
  have N10 := Aside0.mk h10
  have N11 := Aside0.mk h11
  have L9 := Aside0.mk l9
  have L10 := Aside0.mk l10
  have L11 := Aside0.mk l11
  have EE := Aside0.mk (And.intro e1 (And.intro e2 e3))
  clear hY h9 h10 h11 l9 l10 l11 e1 e2 e3
  refine frame_ (a' := ?aa25) ?ha25 ?nx25
  case ha25 =>
    simp only [Go.Proofs.YtbpfmlckddhgbaaGreatDoorW.PrintLast.putAll, Act.put, List.setIfInBounds_toArray, List.set_cons_zero, List.set_cons_succ]
    rfl
  refine one_ (i := 12) (N := none) #[true, true, true, true, true, true, true, true, true, true, true, true, true, false, false] rfl rfl (by kernel_rfl) (by decide) (fun K hK => ?_)
  rw [if_pos (by rfl)]
  refine wpo_store1 none rfl 3 _ _ rfl ⟨b9, 0, none⟩ rfl (.int .i64 rd) rfl (run_store1 3 ⟨b9, 0, none⟩ _ (.int .i64 0) (by rw [N9.out.cell]; rfl) (N9.out.frozen 0) size3 rfl rfl) ?_
  intro Y1 hW
  have hO : Only (· = b9) w'.heap.size w' Y1 := by subst hW; exact Only.setCell (S := (· = b9)) (a := ⟨b9, 0, none⟩) (Only.refl _ _ _) (.inl rfl) _
  have N9 := Aside0.mk (show At Y1 b9 3 [.int .i64 rd] by subst hW; exact N9.out.setCell 0 _)
  have N10 := Aside0.mk (hO.at_ N10.out.lt (Ne.symm EE.out.1) N10.out)
  have N11 := Aside0.mk (hO.at_ N11.out.lt (Ne.symm EE.out.2.1) N11.out)
  have HS := Aside0.mk (HS.out.trans (hO.to_below HS.out.size (fun b hb => by have e : b = b9 := hb; have := L9.out; omega)))
  clear hW hO
  refine hK _ _ HS.out (fun _ => ?_)
  clear hK K
  refine frame_ (a' := ?aa26) ?ha26 ?nx26
  case ha26 =>
    simp only [Go.Proofs.YtbpfmlckddhgbaaGreatDoorW.PrintLast.putAll, Act.put, List.setIfInBounds_toArray, List.set_cons_zero, List.set_cons_succ]
    rfl
  refine one_ (i := 13) (N := none) #[true, true, true, true, true, true, true, true, true, true, true, true, true, true, false] rfl rfl (by kernel_rfl) (by decide) (fun K hK => ?_)
  rw [if_pos (by rfl)]
  refine wpo_store1 none rfl 3 _ _ rfl ⟨b10, 0, none⟩ rfl (.int .i64 rn) rfl (run_store1 3 ⟨b10, 0, none⟩ _ (.int .i64 0) (by rw [N10.out.cell]; rfl) (N10.out.frozen 0) size3 rfl rfl) ?_
  intro Y2 hW
  have hO : Only (· = b10) Y1.heap.size Y1 Y2 := by subst hW; exact Only.setCell (S := (· = b10)) (a := ⟨b10, 0, none⟩) (Only.refl _ _ _) (.inl rfl) _
  have N10 := Aside0.mk (show At Y2 b10 3 [.int .i64 rn] by subst hW; exact N10.out.setCell 0 _)
  have N9 := Aside0.mk (hO.at_ N9.out.lt EE.out.1 N9.out)
  have N11 := Aside0.mk (hO.at_ N11.out.lt (Ne.symm EE.out.2.2) N11.out)
  have HS := Aside0.mk (HS.out.trans (hO.to_below HS.out.size (fun b hb => by have e : b = b10 := hb; have := L10.out; omega)))
  clear hW hO
  refine hK _ _ HS.out (fun _ => ?_)
  clear hK K
  refine frame_ (a' := ?aa27) ?ha27 ?nx27
  case ha27 =>
    simp only [Go.Proofs.YtbpfmlckddhgbaaGreatDoorW.PrintLast.putAll, Act.put, List.setIfInBounds_toArray, List.set_cons_zero, List.set_cons_succ]
    rfl
  refine one_ (i := 14) (N := none) #[true, true, true, true, true, true, true, true, true, true, true, true, true, true, true] rfl rfl (by kernel_rfl) (by decide) (fun K hK => ?_)
  rw [if_pos (by rfl)]
  refine wpo_store1 none rfl 3 _ _ rfl ⟨b11, 0, none⟩ rfl (.int .i64 rb) rfl (run_store1 3 ⟨b11, 0, none⟩ _ (.int .i64 0) (by rw [N11.out.cell]; rfl) (N11.out.frozen 0) size3 rfl rfl) ?_
  intro Y3 hW
  have hO : Only (· = b11) Y2.heap.size Y2 Y3 := by subst hW; exact Only.setCell (S := (· = b11)) (a := ⟨b11, 0, none⟩) (Only.refl _ _ _) (.inl rfl) _
  have N11 := Aside0.mk (show At Y3 b11 3 [.int .i64 rb] by subst hW; exact N11.out.setCell 0 _)
  have N9 := Aside0.mk (hO.at_ N9.out.lt EE.out.2.1 N9.out)
  have N10 := Aside0.mk (hO.at_ N10.out.lt EE.out.2.2 N10.out)
  have HS := Aside0.mk (HS.out.trans (hO.to_below HS.out.size (fun b hb => by have e : b = b11 := hb; have := L11.out; omega)))
  clear hW hO
  refine hK _ _ HS.out (fun _ => ?_)
  clear hK K
  refine frame_ (a' := ?aa28) ?ha28 ?nx28
  case ha28 =>
    simp only [Go.Proofs.YtbpfmlckddhgbaaGreatDoorW.PrintLast.putAll, Act.put, List.setIfInBounds_toArray, List.set_cons_zero, List.set_cons_succ]
    rfl
  refine done_ (by kernel_rfl) ?_
  have N8 := Aside0.mk (N8.out.below HS.out N8.out.lt)
  have N4 := Aside0.mk (N4.out.below HS.out N4.out.lt)
  have N3 := Aside0.mk (N3.out.below HS.out N3.out.lt)
  have B4 := Aside0.mk (B4.out.trans (HS.out.mono B4.out.size))
  have S8 := Aside0.mk (show w.heap.size < b8 ∧ b8 < W8.heap.size ∧ W8.heap.size ≤ Y3.heap.size ∧ b4 < W8.heap.size ∧ w.heap.size ≤ b4 from L8.out HS.out.size)
  by_cases he : eF = 0
  · subst he
    go_wp2_with (first
      | (have G := M12.out
         refine arm_store1 rfl 144 _ _ rfl ⟨W12.heap.size, 0, none⟩ rfl (.func (.func 86) #[] #[.pointer (some ⟨Y3.heap.size, 0, none⟩), .pointer (some ⟨b8, 0, none⟩), .pointer (some ⟨W12.heap.size, 0, none⟩), .pointer (some ⟨b11, 0, none⟩)]) rfl .nilFunc (by rw [(At.new W12 144 #[.nilFunc]).cell]; rfl) ((At.new W12 144 #[.nilFunc]).frozen 0) size144 rfl rfl ?_
         intro W13 hW
         have hO : Only (· = W12.heap.size) W12.heap.size W12 W13 := by subst hW; exact Only.setCell (S := (· = W12.heap.size)) (a := ⟨W12.heap.size, 0, none⟩) ((Only.refl _ _ _).alloc (Nat.le_refl _) _) (.inl rfl) _
         have hB : Below W12.heap.size W12 W13 := hO.to_below (Nat.le_refl _) (fun b hb => by have e : b = W12.heap.size := hb; omega)
         have NW := Aside0.mk (show At W13 W12.heap.size 144 [(.func (.func 86) #[] #[.pointer (some ⟨Y3.heap.size, 0, none⟩), .pointer (some ⟨b8, 0, none⟩), .pointer (some ⟨W12.heap.size, 0, none⟩), .pointer (some ⟨b11, 0, none⟩)])] by subst hW; exact (At.new W12 144 #[.nilFunc]).setCell 0 _)
         have NG := Aside0.mk (NG.out.below hB NG.out.lt)
         have N9 := Aside0.mk (N9.out.below hB N9.out.lt)
         have N10 := Aside0.mk (N10.out.below hB N10.out.lt)
         have N11 := Aside0.mk (N11.out.below hB N11.out.lt)
         have N8 := Aside0.mk (N8.out.below hB N8.out.lt)
         have N4 := Aside0.mk (N4.out.below hB N4.out.lt)
         have N3 := Aside0.mk (N3.out.below hB N3.out.lt)
         have B4 := Aside0.mk (B4.out.trans (hB.mono B4.out.size))
         have kw : W13.cell? ⟨W12.heap.size, 0, none⟩ = some (.func (.func 86) #[] #[.pointer (some ⟨Y3.heap.size, 0, none⟩), .pointer (some ⟨b8, 0, none⟩), .pointer (some ⟨W12.heap.size, 0, none⟩), .pointer (some ⟨b11, 0, none⟩)]) := by rw [NW.out.cell]; rfl
         have M13 := Aside0.mk True.intro
         clear hW hO hB)
      | (refine arm_store1 rfl 143 _ _ rfl ⟨Y3.heap.size, 0, none⟩ rfl (.func (.func 84) #[] #[.pointer (some ⟨b9, 0, none⟩), .pointer (some ⟨b10, 0, none⟩), .pointer (some ⟨w.heap.size, 0, none⟩)]) rfl .nilFunc (by rw [(At.new Y3 143 #[.nilFunc]).cell]; rfl) ((At.new Y3 143 #[.nilFunc]).frozen 0) size143 rfl rfl ?_
         intro W12 hW
         have hO : Only (· = Y3.heap.size) Y3.heap.size Y3 W12 := by subst hW; exact Only.setCell (S := (· = Y3.heap.size)) (a := ⟨Y3.heap.size, 0, none⟩) ((Only.refl _ _ _).alloc (Nat.le_refl _) _) (.inl rfl) _
         have hB : Below Y3.heap.size Y3 W12 := hO.to_below (Nat.le_refl _) (fun b hb => by have e : b = Y3.heap.size := hb; omega)
         have NG := Aside0.mk (show At W12 Y3.heap.size 143 [(.func (.func 84) #[] #[.pointer (some ⟨b9, 0, none⟩), .pointer (some ⟨b10, 0, none⟩), .pointer (some ⟨w.heap.size, 0, none⟩)])] by subst hW; exact (At.new Y3 143 #[.nilFunc]).setCell 0 _)
         have SZ := Aside0.mk (show b9 < Y3.heap.size ∧ b10 < Y3.heap.size ∧ b11 < Y3.heap.size ∧ Y3.heap.size < W12.heap.size from ⟨N9.out.lt, N10.out.lt, N11.out.lt, NG.out.lt⟩)
         have N9 := Aside0.mk (N9.out.below hB N9.out.lt)
         have N10 := Aside0.mk (N10.out.below hB N10.out.lt)
         have N11 := Aside0.mk (N11.out.below hB N11.out.lt)
         have N8 := Aside0.mk (N8.out.below hB N8.out.lt)
         have N4 := Aside0.mk (N4.out.below hB N4.out.lt)
         have N3 := Aside0.mk (N3.out.below hB N3.out.lt)
         have B4 := Aside0.mk (B4.out.trans (hB.mono B4.out.size))
         have M12 := Aside0.mk True.intro
         clear hW hO hB)
      | (refine arm_load_row rfl 27 _ rfl b4 0 rfl (d.map bv) N4.out.rangeAll (by kernel_rfl) (by rw [List.length_map, HD.out]; exact size27) ?_
         intro v27 hv0
         have hv : v27 = dv := hv0.trans DV.out.symm
         clear hv0
         subst v27)
      | (go_at_call 86
         have hs1 : s < w.heap.size := HH.out.cells.lt
         have hs2 : bm < w.heap.size := HH.out.map.lt
         have z1 := S8.out
         have z2 := SZ.out
         have z3 := NW.out.lt
         have z4 := L9.out
         have z5 := L10.out
         have z6 := L11.out
         have e1 := EE.out.1
         have e2 := EE.out.2.1
         have e3 := EE.out.2.2
         have hoff : ∀ b, w.heap.size ≤ b → MOff M b := fun b hb => HH.out.off hb
         have hmem : LMem W13 (fun _ => False) W13.heap.size ⟨b9, b10, w.heap.size, b8, b11, Y3.heap.size, W12.heap.size, s, bm⟩ rd M ⟨rn, rb, σ, []⟩ (.slice none 0 0) :=
           ⟨N9.out, N10.out, N3.out, N8.out, N11.out, NG.out, NW.out, HH.out.below B4.out, ItRow.nil _ _, hoff _ (by simp only; omega), hoff _ (by simp only; omega), hoff _ (by simp only; omega), fun k hk => by simp [Value.ownBlock] at hk, fun b hb => hb.elim,
             ⟨by simp only; omega, by simp only; omega, by simp only; omega, by simp only; omega, by simp only; omega, by simp only; omega, by simp only; omega, by simp only; omega, by simp only; omega, Nat.le_refl _⟩,
             ⟨by simp only; omega, by simp only; omega, by simp only; omega, by simp only; omega, by simp only; omega, by simp only; omega, by simp only; omega, by simp only; omega⟩,
             ⟨by simp only; omega, by simp only; omega, by simp only; omega, by simp only; omega, by simp only; omega, by simp only; omega, by simp only; omega⟩,
             ⟨by simp only; omega, by simp only; omega, by simp only; omega, by simp only; omega, by simp only; omega, by simp only; omega⟩,
             ⟨by simp only; omega, by simp only; omega, by simp only; omega, by simp only; omega⟩⟩
         have hcall := lwalk_ok dec HDEC.out rd f W13 (fun _ => False) W13.heap.size ⟨b9, b10, w.heap.size, b8, b11, Y3.heap.size, W12.heap.size, s, bm⟩ M ⟨rn, rb, σ, []⟩ (.slice none 0 0) ⟨#[]⟩ d 0 0 stF hmem HD.out (by simp only; omega) HG.out HM.out
         rw [← DV.out] at hcall
         refine hcall.mono ?_
         rintro e w14 ⟨rfl, v, hm14, hO14, _⟩
         have FIN := Aside0.mk (show ItRow w14 (fun b => w.heap.size ≤ b) v stF.items ∧ HSt w14 s bm stF.σ M ∧ Only (· = s) w.heap.size w w14 from ⟨hm14.its.mono (fun b _ hb => by rcases hb with hb | hb; exact hb.elim; have := B4.out.size; omega), hm14.hst, (Only.of_below B4.out).trans (hO14.mono B4.out.size (fun b hb h => by
           rcases h with h | h | h | h | h
           · simp only at h; omega
           · exact h
           · simp only at h; omega
           · simp only at h; omega
           · simp [Value.ownBlock] at h))⟩)
         have kl : w14.cell? ⟨b8, 0, none⟩ = some v := by rw [hm14.lv.cell]; rfl
         clear hs1 hs2 z1 z2 z3 z4 z5 z6 e1 e2 e3 hoff hmem hcall hm14 hO14 kw)
      | fail)
    go_ret2
    exact ⟨v, rfl, FIN.out.1, FIN.out.2.1, FIN.out.2.2⟩
  · have he1 : (eF == 0) = false := beq_eq_false_iff_ne.2 he
    have he2 : (eF != 0) = true := by rw [bne, he1]; rfl
    go_wp2_with (first
      | (have G := M12.out
         refine arm_store1 rfl 144 _ _ rfl ⟨W12.heap.size, 0, none⟩ rfl (.func (.func 86) #[] #[.pointer (some ⟨Y3.heap.size, 0, none⟩), .pointer (some ⟨b8, 0, none⟩), .pointer (some ⟨W12.heap.size, 0, none⟩), .pointer (some ⟨b11, 0, none⟩)]) rfl .nilFunc (by rw [(At.new W12 144 #[.nilFunc]).cell]; rfl) ((At.new W12 144 #[.nilFunc]).frozen 0) size144 rfl rfl ?_
         intro W13 hW
         have hO : Only (· = W12.heap.size) W12.heap.size W12 W13 := by subst hW; exact Only.setCell (S := (· = W12.heap.size)) (a := ⟨W12.heap.size, 0, none⟩) ((Only.refl _ _ _).alloc (Nat.le_refl _) _) (.inl rfl) _
         have hB : Below W12.heap.size W12 W13 := hO.to_below (Nat.le_refl _) (fun b hb => by have e : b = W12.heap.size := hb; omega)
         have NW := Aside0.mk (show At W13 W12.heap.size 144 [(.func (.func 86) #[] #[.pointer (some ⟨Y3.heap.size, 0, none⟩), .pointer (some ⟨b8, 0, none⟩), .pointer (some ⟨W12.heap.size, 0, none⟩), .pointer (some ⟨b11, 0, none⟩)])] by subst hW; exact (At.new W12 144 #[.nilFunc]).setCell 0 _)
         have NG := Aside0.mk (NG.out.below hB NG.out.lt)
         have N9 := Aside0.mk (N9.out.below hB N9.out.lt)
         have N10 := Aside0.mk (N10.out.below hB N10.out.lt)
         have N11 := Aside0.mk (N11.out.below hB N11.out.lt)
         have N8 := Aside0.mk (N8.out.below hB N8.out.lt)
         have N4 := Aside0.mk (N4.out.below hB N4.out.lt)
         have N3 := Aside0.mk (N3.out.below hB N3.out.lt)
         have B4 := Aside0.mk (B4.out.trans (hB.mono B4.out.size))
         have kw : W13.cell? ⟨W12.heap.size, 0, none⟩ = some (.func (.func 86) #[] #[.pointer (some ⟨Y3.heap.size, 0, none⟩), .pointer (some ⟨b8, 0, none⟩), .pointer (some ⟨W12.heap.size, 0, none⟩), .pointer (some ⟨b11, 0, none⟩)]) := by rw [NW.out.cell]; rfl
         have M13 := Aside0.mk True.intro
         clear hW hO hB)
      | (refine arm_store1 rfl 143 _ _ rfl ⟨Y3.heap.size, 0, none⟩ rfl (.func (.func 84) #[] #[.pointer (some ⟨b9, 0, none⟩), .pointer (some ⟨b10, 0, none⟩), .pointer (some ⟨w.heap.size, 0, none⟩)]) rfl .nilFunc (by rw [(At.new Y3 143 #[.nilFunc]).cell]; rfl) ((At.new Y3 143 #[.nilFunc]).frozen 0) size143 rfl rfl ?_
         intro W12 hW
         have hO : Only (· = Y3.heap.size) Y3.heap.size Y3 W12 := by subst hW; exact Only.setCell (S := (· = Y3.heap.size)) (a := ⟨Y3.heap.size, 0, none⟩) ((Only.refl _ _ _).alloc (Nat.le_refl _) _) (.inl rfl) _
         have hB : Below Y3.heap.size Y3 W12 := hO.to_below (Nat.le_refl _) (fun b hb => by have e : b = Y3.heap.size := hb; omega)
         have NG := Aside0.mk (show At W12 Y3.heap.size 143 [(.func (.func 84) #[] #[.pointer (some ⟨b9, 0, none⟩), .pointer (some ⟨b10, 0, none⟩), .pointer (some ⟨w.heap.size, 0, none⟩)])] by subst hW; exact (At.new Y3 143 #[.nilFunc]).setCell 0 _)
         have SZ := Aside0.mk (show b9 < Y3.heap.size ∧ b10 < Y3.heap.size ∧ b11 < Y3.heap.size ∧ Y3.heap.size < W12.heap.size from ⟨N9.out.lt, N10.out.lt, N11.out.lt, NG.out.lt⟩)
         have N9 := Aside0.mk (N9.out.below hB N9.out.lt)
         have N10 := Aside0.mk (N10.out.below hB N10.out.lt)
         have N11 := Aside0.mk (N11.out.below hB N11.out.lt)
         have N8 := Aside0.mk (N8.out.below hB N8.out.lt)
         have N4 := Aside0.mk (N4.out.below hB N4.out.lt)
         have N3 := Aside0.mk (N3.out.below hB N3.out.lt)
         have B4 := Aside0.mk (B4.out.trans (hB.mono B4.out.size))
         have M12 := Aside0.mk True.intro
         clear hW hO hB)
      | (refine arm_load_row rfl 27 _ rfl b4 0 rfl (d.map bv) N4.out.rangeAll (by kernel_rfl) (by rw [List.length_map, HD.out]; exact size27) ?_
         intro v27 hv0
         have hv : v27 = dv := hv0.trans DV.out.symm
         clear hv0
         subst v27)
      | (go_at_call 86
         have hs1 : s < w.heap.size := HH.out.cells.lt
         have hs2 : bm < w.heap.size := HH.out.map.lt
         have z1 := S8.out
         have z2 := SZ.out
         have z3 := NW.out.lt
         have z4 := L9.out
         have z5 := L10.out
         have z6 := L11.out
         have e1 := EE.out.1
         have e2 := EE.out.2.1
         have e3 := EE.out.2.2
         have hoff : ∀ b, w.heap.size ≤ b → MOff M b := fun b hb => HH.out.off hb
         have hmem : LMem W13 (fun _ => False) W13.heap.size ⟨b9, b10, w.heap.size, b8, b11, Y3.heap.size, W12.heap.size, s, bm⟩ rd M ⟨rn, rb, σ, []⟩ (.slice none 0 0) :=
           ⟨N9.out, N10.out, N3.out, N8.out, N11.out, NG.out, NW.out, HH.out.below B4.out, ItRow.nil _ _, hoff _ (by simp only; omega), hoff _ (by simp only; omega), hoff _ (by simp only; omega), fun k hk => by simp [Value.ownBlock] at hk, fun b hb => hb.elim,
             ⟨by simp only; omega, by simp only; omega, by simp only; omega, by simp only; omega, by simp only; omega, by simp only; omega, by simp only; omega, by simp only; omega, by simp only; omega, Nat.le_refl _⟩,
             ⟨by simp only; omega, by simp only; omega, by simp only; omega, by simp only; omega, by simp only; omega, by simp only; omega, by simp only; omega, by simp only; omega⟩,
             ⟨by simp only; omega, by simp only; omega, by simp only; omega, by simp only; omega, by simp only; omega, by simp only; omega, by simp only; omega⟩,
             ⟨by simp only; omega, by simp only; omega, by simp only; omega, by simp only; omega, by simp only; omega, by simp only; omega⟩,
             ⟨by simp only; omega, by simp only; omega, by simp only; omega, by simp only; omega⟩⟩
         have hcall := lwalk_ok dec HDEC.out rd f W13 (fun _ => False) W13.heap.size ⟨b9, b10, w.heap.size, b8, b11, Y3.heap.size, W12.heap.size, s, bm⟩ M ⟨rn, rb, σ, []⟩ (.slice none 0 0) ⟨#[]⟩ d 0 eF stF hmem HD.out (by simp only; omega) HG.out HM.out
         rw [← DV.out] at hcall
         refine hcall.mono ?_
         rintro e w14 ⟨rfl, v, hm14, hO14, _⟩
         have FIN := Aside0.mk (show ItRow w14 (fun b => w.heap.size ≤ b) v stF.items ∧ HSt w14 s bm stF.σ M ∧ Only (· = s) w.heap.size w w14 from ⟨hm14.its.mono (fun b _ hb => by rcases hb with hb | hb; exact hb.elim; have := B4.out.size; omega), hm14.hst, (Only.of_below B4.out).trans (hO14.mono B4.out.size (fun b hb h => by
           rcases h with h | h | h | h | h
           · simp only at h; omega
           · exact h
           · simp only at h; omega
           · simp only at h; omega
           · simp [Value.ownBlock] at h))⟩)
         have kl : w14.cell? ⟨b8, 0, none⟩ = some v := by rw [hm14.lv.cell]; rfl
         clear hs1 hs2 z1 z2 z3 z4 z5 z6 e1 e2 e3 hoff hmem hcall hm14 hO14 kw)
      | fail)
    go_ret2
    exact ⟨_, rfl, fun h => absurd h he, fun _ => rfl, FIN.out.2.1, FIN.out.2.2⟩
end Go.Proofs.YtbpfmlckddhgbaaGreatDoor
