/- the document's SameItems. -/
import Derived.Test.YtbpfmlckddhgbaaGreatDoorQf
import Derived.Test.YtbpfmlckddhgbaaGreatDoorQg
namespace Go.Proofs.YtbpfmlckddhgbaaGreatDoor
set_option linter.unusedVariables false
set_option linter.unusedSimpArgs false
open Go Go.RowKit Go.Maps Go.WideMaps Go.Proofs.YtbpfmlckddhgbaaGreatDoorW.PrintWords Go.Proofs.YtbpfmlckddhgbaaGreatDoorW.PrintLast
def sameI (x y : Itm) : Bool := x.path.toList == y.path.toList && (x.dir == y.dir && x.data == y.data)
def sameL : List Itm → List Itm → Bool
  | [], [] => true
  | x :: xs, y :: ys => sameI x y && sameL xs ys
  | _, _ => false
theorem sameL_len : ∀ (xs ys : List Itm), xs.length ≠ ys.length → sameL xs ys = false
  | [], [], h => absurd rfl h
  | [], _ :: _, _ => rfl
  | _ :: _, [], _ => rfl
  | x :: xs, y :: ys, h => by rw [sameL, sameL_len xs ys (by simpa using h), Bool.and_false]
set_option maxRecDepth 8000 in
set_option maxHeartbeats 2000000 in
theorem same_items_calls (w : World) (hi : Nat) (A1 A2 : Option Addr) (c1 c2 : Nat) (xs ys : List Itm) (h1 : RdI w hi A1 xs) (h2 : RdI w hi A2 ys) (hhi : hi ≤ w.heap.size) (hl : xs.length < 1048576 ∧ ys.length < 1048576) :
    Calls Tryz.prog 26 #[.slice A1 xs.length c1, .slice A2 ys.length c2] w fun e w' => e = .returned (.bool (sameL xs ys)) ∧ Below w.heap.size w w' := by
  have H1 := Aside0.mk h1
  have H2 := Aside0.mk h2
  have HH := Aside0.mk hhi
  have hl1 := hl.1
  have hl2 := hl.2
  clear h1 h2 hhi hl
  by_cases hne : xs.length = ys.length
  · obtain ⟨n, hn⟩ : ∃ n, n = ys.length := ⟨_, rfl⟩
    rw [hne, ← hn]
    obtain ⟨R, hR⟩ : ∃ R, R = sameL xs ys := ⟨_, rfl⟩
    rw [← hR]
    have RR := Aside0.mk hR
    have NN := Aside0.mk (And.intro (hne.trans hn.symm) hn.symm)
    have hnb : n < 1048576 := by omega
    clear hR hne hn hl1 hl2
    go_enter Tryz.func26, Tryz.ntmps26
    go_wp2_with fail
    go_loopg [5] n (fun g i wr => ∃ k : Nat, Aside0 (k + g = n) ∧ i = .int .i64 k ∧ Aside0 (R = sameL (xs.drop k) (ys.drop k)) ∧ Aside0 (Below w.heap.size w wr))
    case atStart => exact ⟨0, ⟨by omega⟩, rfl, RR, ⟨Below.refl _ _⟩⟩
    case round =>
      obtain ⟨k, HJ, rfl, HR, HB⟩ := hrel
      by_cases hlt : k < n
      · have hx0 : k < xs.length := by have := NN.out; omega
        have hy0 : k < ys.length := by have := NN.out; omega
        obtain ⟨x, hx⟩ : ∃ x, xs[k]? = some x := ⟨_, List.getElem?_eq_getElem hx0⟩
        obtain ⟨y, hy⟩ : ∃ y, ys[k]? = some y := ⟨_, List.getElem?_eq_getElem hy0⟩
        have hr := HR.out
        rw [List.drop_eq_getElem_cons hx0, (List.getElem?_eq_some_iff.1 hx).2, List.drop_eq_getElem_cons hy0, (List.getElem?_eq_some_iff.1 hy).2, sameL] at hr
        have hi1 := H1.out.only (Only.of_below (S := fun _ => False) HB.out) HH.out (fun _ h => h.elim)
        have hi2 := H2.out.only (Only.of_below (S := fun _ => False) HB.out) HH.out (fun _ h => h.elim)
        have hbig : hi ≤ wr.heap.size := Nat.le_trans HH.out HB.out.size
        obtain ⟨g1, o1, hA1, _, q1⟩ := hi1 (by intro h; rw [h] at hx0; simp at hx0)
        obtain ⟨g2, o2, hA2, _, q2⟩ := hi2 (by intro h; rw [h] at hy0; simp at hy0)
        obtain ⟨B1, d1, r1, _, u1⟩ := q1 k x hx
        obtain ⟨B2, d2, r2, _, u2⟩ := q2 k y hy
        subst hA1 hA2
        have ka : wr.cell? ⟨g1, o1 + k * 3, none⟩ = some (.string x.path) := r1 0 _ rfl
        have kb : wr.cell? ⟨g1, o1 + k * 3 + 1, none⟩ = some (.bool x.dir) := r1 1 _ rfl
        have kc : wr.cell? ⟨g1, o1 + k * 3 + 2, none⟩ = some (.slice B1 x.data.length d1) := r1 2 _ rfl
        have ke : wr.cell? ⟨g2, o2 + k * 3, none⟩ = some (.string y.path) := r2 0 _ rfl
        have kf : wr.cell? ⟨g2, o2 + k * 3 + 1, none⟩ = some (.bool y.dir) := r2 1 _ rfl
        have kg : wr.cell? ⟨g2, o2 + k * 3 + 2, none⟩ = some (.slice B2 y.data.length d2) := r2 2 _ rfl
        have v1 : RdL wr B1 x.data := fun hne => by obtain ⟨ad, a1, a2, a3⟩ := u1 hne; exact ⟨ad, a1, by omega, a3⟩
        have v2 : RdL wr B2 y.data := fun hne => by obtain ⟨ad, a1, a2, a3⟩ := u2 hne; exact ⟨ad, a1, by omega, a3⟩
        have hc1 : ∀ q, (convert 35 9 (.slice B1 x.data.length d1)).run Tryz.prog (wr.drewN q) = .ok (.string ⟨x.data.toArray⟩) (wr.drewN q) := fun q => by rw [← str_of_bytes]; exact (RdL.below v1 (show Below wr.heap.size wr (wr.drewN q) from ⟨rfl, rfl, rfl, Nat.le_refl _, fun _ _ => rfl⟩)).bytesIn.convert (by simp) d1 35 5 9 tu35 tu5 tu9
        have hc2 : ∀ q, (convert 35 9 (.slice B2 y.data.length d2)).run Tryz.prog (wr.drewN q) = .ok (.string ⟨y.data.toArray⟩) (wr.drewN q) := fun q => by rw [← str_of_bytes]; exact (RdL.below v2 (show Below wr.heap.size wr (wr.drewN q) from ⟨rfl, rfl, rfl, Nat.le_refl _, fun _ _ => rfl⟩)).bytesIn.convert (by simp) d2 35 5 9 tu35 tu5 tu9
        clear q1 q2 r1 r2 u1 u2 v1 v2 hi1 hi2 hx hy
        obtain ⟨pp, hpp⟩ : ∃ pp, pp = (x.path.toList == y.path.toList) := ⟨_, rfl⟩
        obtain ⟨dx, hdx⟩ : ∃ dx, dx = x.dir := ⟨_, rfl⟩
        obtain ⟨dy, hdy⟩ : ∃ dy, dy = y.dir := ⟨_, rfl⟩
        obtain ⟨tt, htt⟩ : ∃ tt, tt = (x.data == y.data) := ⟨_, rfl⟩
        unfold sameI at hr
        rw [← hpp, ← hdx, ← hdy, ← htt] at hr
        rw [← hdx] at kb
        rw [← hdy] at kf
        have hpe := hpp.symm
        have hte := htt.symm
        clear hpp hdx hdy htt
        cases pp
        · have HRR := Aside0.mk (show R = false by rw [hr]; rfl)
          clear hr
          go_wp2_with fail
          go_quiet (fail)
          go_wp2_with fail
          go_ret
          exact ⟨by rw [HRR.out]; rfl, HB.out.trans (show Below w.heap.size wr _ from ⟨rfl, rfl, rfl, Nat.le_refl _, fun _ _ => rfl⟩)⟩
        · cases dx <;> cases dy
          · cases tt
            · have HRR := Aside0.mk (show R = false by rw [hr]; rfl)
              clear hr
              go_wp2_with fail
              go_quiet (fail)
              go_wp2_with fail
              go_ret
              exact ⟨by rw [HRR.out]; rfl, HB.out.trans (show Below w.heap.size wr _ from ⟨rfl, rfl, rfl, Nat.le_refl _, fun _ _ => rfl⟩)⟩
            · have HRR := Aside0.mk (show R = sameL (xs.drop (k + 1)) (ys.drop (k + 1)) by rw [hr]; rfl)
              clear hr
              go_wp2_with fail
              go_quiet (fail)
              go_wp2_with fail
              go_roundg (n - (k + 1))
              case measure => have := HJ.out; omega
              case rel => exact ⟨k + 1, ⟨by have := HJ.out; omega⟩, by go_num, HRR, ⟨HB.out.trans (show Below w.heap.size wr _ from ⟨rfl, rfl, rfl, Nat.le_refl _, fun _ _ => rfl⟩)⟩⟩
          · have HRR := Aside0.mk (show R = false by rw [hr]; rfl)
            clear hr
            go_wp2_with fail
            go_quiet (fail)
            go_wp2_with fail
            go_ret
            exact ⟨by rw [HRR.out]; rfl, HB.out.trans (show Below w.heap.size wr _ from ⟨rfl, rfl, rfl, Nat.le_refl _, fun _ _ => rfl⟩)⟩
          · have HRR := Aside0.mk (show R = false by rw [hr]; rfl)
            clear hr
            go_wp2_with fail
            go_quiet (fail)
            go_wp2_with fail
            go_ret
            exact ⟨by rw [HRR.out]; rfl, HB.out.trans (show Below w.heap.size wr _ from ⟨rfl, rfl, rfl, Nat.le_refl _, fun _ _ => rfl⟩)⟩
          · cases tt
            · have HRR := Aside0.mk (show R = false by rw [hr]; rfl)
              clear hr
              go_wp2_with fail
              go_quiet (fail)
              go_wp2_with fail
              go_ret
              exact ⟨by rw [HRR.out]; rfl, HB.out.trans (show Below w.heap.size wr _ from ⟨rfl, rfl, rfl, Nat.le_refl _, fun _ _ => rfl⟩)⟩
            · have HRR := Aside0.mk (show R = sameL (xs.drop (k + 1)) (ys.drop (k + 1)) by rw [hr]; rfl)
              clear hr
              go_wp2_with fail
              go_quiet (fail)
              go_wp2_with fail
              go_roundg (n - (k + 1))
              case measure => have := HJ.out; omega
              case rel => exact ⟨k + 1, ⟨by have := HJ.out; omega⟩, by go_num, HRR, ⟨HB.out.trans (show Below w.heap.size wr _ from ⟨rfl, rfl, rfl, Nat.le_refl _, fun _ _ => rfl⟩)⟩⟩
      · obtain rfl : k = n := by have := HJ.out; omega
        have hr := HR.out
        rw [show xs.drop k = [] from List.drop_eq_nil_of_le (by have := NN.out; omega), show ys.drop k = [] from List.drop_eq_nil_of_le (by have := NN.out; omega)] at hr
        have HRR := Aside0.mk (show R = true from hr)
        clear hr
        go_wp2_with fail
        go_ret
        exact ⟨by rw [HRR.out]; rfl, HB.out⟩
  · rw [sameL_len xs ys hne]
    have t1 : (((xs.length : Nat) : Int) == ((ys.length : Nat) : Int)) = false := beq_eq_false_iff_ne.2 (by omega)
    go_enter Tryz.func26, Tryz.ntmps26
    go_wp2_with fail
    go_ret
    exact ⟨rfl, Below.refl _ _⟩
end Go.Proofs.YtbpfmlckddhgbaaGreatDoor
/- known: the digests of its three blobs. -/
namespace Go.Proofs.YtbpfmlckddhgbaaGreatDoor
set_option linter.unusedVariables false
open Go
def kb1 : List UInt8 := [1, 2]
def kd1 : List UInt8 := [161, 40, 113, 254, 226, 16, 251, 134, 25, 41, 30, 174, 161, 148, 88, 28, 189, 37, 49, 228, 178, 55, 89, 210, 37, 246, 128, 105, 35, 246, 50, 34]
def kb2 : List UInt8 := [1, 1, 1, 1, 120, 32, 161, 40, 113, 254, 226, 16, 251, 134, 25, 41, 30, 174, 161, 148, 88, 28, 189, 37, 49, 228, 178, 55, 89, 210, 37, 246, 128, 105, 35, 246, 50, 34]
def kd2 : List UInt8 := [57, 223, 184, 154, 222, 43, 219, 127, 98, 240, 8, 144, 244, 168, 7, 45, 94, 53, 177, 31, 0, 144, 215, 30, 171, 238, 148, 31, 57, 35, 52, 40]
def kb3 : List UInt8 := [1, 2, 2, 1, 97, 32, 57, 223, 184, 154, 222, 43, 219, 127, 98, 240, 8, 144, 244, 168, 7, 45, 94, 53, 177, 31, 0, 144, 215, 30, 171, 238, 148, 31, 57, 35, 52, 40, 1, 1, 98, 32, 161, 40, 113, 254, 226, 16, 251, 134, 25, 41, 30, 174, 161, 148, 88, 28, 189, 37, 49, 228, 178, 55, 89, 210, 37, 246, 128, 105, 35, 246, 50, 34]
def kd3 : List UInt8 := [148, 115, 163, 100, 98, 64, 151, 166, 109, 11, 82, 183, 109, 137, 106, 3, 143, 105, 127, 110, 180, 16, 145, 110, 192, 93, 195, 110, 228, 239, 67, 25]
end Go.Proofs.YtbpfmlckddhgbaaGreatDoor
/- known: what its tree is, what is kept, what is loaded. -/
namespace Go.Proofs.YtbpfmlckddhgbaaGreatDoor
set_option linter.unusedVariables false
open Go
def kits : List Itm := [⟨⟨#[97]⟩, true, []⟩, ⟨⟨#[97, 47, 120]⟩, false, kb1⟩, ⟨⟨#[98]⟩, false, kb1⟩]
def kes2 : List Ent := [⟨⟨#[120]⟩, 1, kd1⟩]
def kes3 : List Ent := [⟨⟨#[97]⟩, 2, kd2⟩, ⟨⟨#[98]⟩, 1, kd1⟩]
theorem kenc2 : encL kes2 = kb2 := by kernel_rfl
theorem kenc3 : encL kes3 = kb3 := by kernel_rfl
theorem ktree : isTreeM kits = true := by kernel_rfl
theorem krow : rowM 32 kits 10 ⟨#[]⟩ 0 [] [] = some (kes3, 3, [kb1, kb2]) := by kernel_rfl
theorem kok : okRow kes3 = true := by kernel_rfl
theorem kbad : isTreeM (kits.drop 1) = false := by kernel_rfl
end Go.Proofs.YtbpfmlckddhgbaaGreatDoor
/- known: what is kept, what is loaded, what is refused. -/
namespace Go.Proofs.YtbpfmlckddhgbaaGreatDoor
set_option linter.unusedVariables false
open Go
def kσ0 : Sto := Sto.empty 32 1000
def kσ1 : Sto := putσ kσ0 kb1
def kσ2 : Sto := putσ kσ1 kb2
def kσ3 : Sto := putσ kσ2 kb3
theorem kput1 : putOk kσ0 kb1 := ⟨by kernel_rfl, of_decide_eq_true (by kernel_rfl), of_decide_eq_true (by kernel_rfl), of_decide_eq_true (by kernel_rfl), of_decide_eq_true (by kernel_rfl), of_decide_eq_true (by kernel_rfl), of_decide_eq_true (by kernel_rfl), of_decide_eq_true (by kernel_rfl), of_decide_eq_true (by kernel_rfl), of_decide_eq_true (by kernel_rfl), of_decide_eq_true (by kernel_rfl)⟩
theorem kput2 : putOk kσ1 kb2 := ⟨by kernel_rfl, of_decide_eq_true (by kernel_rfl), of_decide_eq_true (by kernel_rfl), of_decide_eq_true (by kernel_rfl), of_decide_eq_true (by kernel_rfl), of_decide_eq_true (by kernel_rfl), of_decide_eq_true (by kernel_rfl), of_decide_eq_true (by kernel_rfl), of_decide_eq_true (by kernel_rfl), of_decide_eq_true (by kernel_rfl), of_decide_eq_true (by kernel_rfl)⟩
theorem kput3 : putOk kσ2 kb3 := ⟨by kernel_rfl, of_decide_eq_true (by kernel_rfl), of_decide_eq_true (by kernel_rfl), of_decide_eq_true (by kernel_rfl), of_decide_eq_true (by kernel_rfl), of_decide_eq_true (by kernel_rfl), of_decide_eq_true (by kernel_rfl), of_decide_eq_true (by kernel_rfl), of_decide_eq_true (by kernel_rfl), of_decide_eq_true (by kernel_rfl), of_decide_eq_true (by kernel_rfl)⟩
theorem kblobs : addB [kb1, kb2] (encL kes3) = [kb1, kb2, kb3] := by kernel_rfl
theorem kput : putAll kσ0 (addB [kb1, kb2] (encL kes3)) kσ3 := by
  rw [kblobs]
  exact ⟨kput1, kput2, kput3, rfl⟩
def kdec (b : List UInt8) : Option (List Ent) := if b = kb3 then some kes3 else if b = kb2 then some kes2 else none
theorem kdec_ok : DecOk kdec := by
  intro b xs h
  unfold kdec at h
  split at h
  · rename_i hb
    injection h with h
    subst hb h
    exact ⟨kenc3.symm, by kernel_rfl, by intro x hx; simp [kes3] at hx; rcases hx with rfl | rfl <;> rfl, of_decide_eq_true (by kernel_rfl), of_decide_eq_true (by kernel_rfl)⟩
  · split at h
    · rename_i hb
      injection h with h
      subst hb h
      exact ⟨kenc2.symm, by kernel_rfl, by intro x hx; simp [kes2] at hx; subst hx; rfl, of_decide_eq_true (by kernel_rfl), of_decide_eq_true (by kernel_rfl)⟩
    · cases h
theorem kload4 : walkL kdec 2 10 ⟨#[]⟩ kd3 0 ⟨4, 4, kσ3, []⟩ = some (0, ⟨0, 0, { kσ3 with gets := 4 }, kits⟩) := by kernel_rfl
theorem kload3 : walkL kdec 2 10 ⟨#[]⟩ kd3 0 ⟨3, 4, { kσ3 with gets := 4 }, []⟩ = some (62, ⟨0, 2, { kσ3 with gets := 7 }, kits.take 2⟩) := by kernel_rfl
theorem ksame : sameL kits kits = true := by kernel_rfl
end Go.Proofs.YtbpfmlckddhgbaaGreatDoor
/- known: its items in memory; a row of items that was told may be read. -/
namespace Go.Proofs.YtbpfmlckddhgbaaGreatDoor
set_option linter.unusedVariables false
open Go Go.RowKit Go.Maps Go.WideMaps
theorem icellsL_at : ∀ (its : List Itm) (As : List (Option Addr × Nat)) (j : Nat) (x : Itm) (a : Option Addr × Nat), its[j]? = some x → As[j]? = some a → ∀ i v, (icells x a.1 a.2)[i]? = some v → (icellsL its As)[j * 3 + i]? = some v
  | [], _, j, x, a, h, _, i, v, _ => by simp at h
  | _ :: _, [], j, x, a, _, h, i, v, _ => by simp at h
  | y :: its, b :: As, 0, x, a, h1, h2, i, v, hv => by
    simp at h1 h2
    subst h1 h2
    simp only [icellsL]
    rw [Nat.zero_mul, Nat.zero_add, List.getElem?_append_left (List.getElem?_eq_some_iff.1 hv).1]
    exact hv
  | y :: its, b :: As, j + 1, x, a, h1, h2, i, v, hv => by
    have e := icellsL_at its As j x a (by simpa using h1) (by simpa using h2) i v hv
    simp only [icellsL]
    have hl : (icells y b.1 b.2).length = 3 := rfl
    rw [List.getElem?_append_right (by rw [hl]; omega), hl, show (j + 1) * 3 + i - 3 = j * 3 + i by omega]
    exact e
theorem ItRow.rdI {w : World} {D : Nat → Prop} {A : Option Addr} {n c : Nat} {its : List Itm} (h : ItRow w D (.slice A n c) its) : RdI w w.heap.size A its ∧ n = its.length := by
  obtain ⟨As, h1, h2, h3⟩ := h.row
  obtain ⟨A1, c1, e1, _, _, r1⟩ := h2.shape
  injection e1 with e2 e3 e4
  refine ⟨fun hne => ?_, e3⟩
  obtain ⟨g, q1, _, q3, q4⟩ := r1 (List.length_pos_iff.2 hne)
  rw [e2] at *
  refine ⟨g, 0, q1, q3, fun j x hx => ?_⟩
  obtain ⟨A', c', g1, g2, g3⟩ := h3 j x hx
  refine ⟨A', c', fun i v hv => ?_, g2, fun hd => ?_⟩
  · have e := q4 (j * 3 + i) v (icellsL_at its As j x (A', c') hx g1 i v hv)
    rw [show 0 + j * 3 + i = 0 + (j * 3 + i) by omega]
    exact e
  · obtain ⟨ad, a1, _, a3, _, a5⟩ := g3 hd
    exact ⟨ad, a1, a3, a5⟩
def kW (w : World) : World := (((w.alloc (.cells #[.int .u8 1, .int .u8 2] 5)).alloc (.cells #[.int .u8 1, .int .u8 2] 5)).alloc (.cells #[.string ⟨#[97]⟩, .bool true, .slice none 0 0, .string ⟨#[97, 47, 120]⟩, .bool false, .slice (some ⟨w.heap.size, 0, none⟩) 2 2, .string ⟨#[98]⟩, .bool false, .slice (some ⟨w.heap.size + 1, 0, none⟩) 2 2] 50))
theorem kW_size (w : World) : (kW w).heap.size = w.heap.size + 3 := by unfold kW; rw [World.size_alloc, World.size_alloc, World.size_alloc]
theorem kW_below (w : World) : Below w.heap.size w (kW w) := (((Below.refl _ _).alloc (Nat.le_refl _) _).alloc (by rw [World.size_alloc]; omega) _).alloc (by rw [World.size_alloc, World.size_alloc]; omega) _
structure KAt (w : World) (b : Nat) : Prop where
  k0 : At w b 5 [.int .u8 1, .int .u8 2]
  k1 : At w (b + 1) 5 [.int .u8 1, .int .u8 2]
  k2 : At w (b + 1 + 1) 50 [.string ⟨#[97]⟩, .bool true, .slice none 0 0, .string ⟨#[97, 47, 120]⟩, .bool false, .slice (some ⟨b, 0, none⟩) 2 2, .string ⟨#[98]⟩, .bool false, .slice (some ⟨b + 1, 0, none⟩) 2 2]
theorem KAt.only {w w1 : World} {b : Nat} {S : Nat → Prop} (h : KAt w b) (ho : Only S w.heap.size w w1) (hS : ∀ k, S k → k < b ∨ b + 2 < k) : KAt w1 b :=
  ⟨ho.at_ h.k0.lt (fun hs => by have := hS _ hs; omega) h.k0, ho.at_ h.k1.lt (fun hs => by have := hS _ hs; omega) h.k1, ho.at_ h.k2.lt (fun hs => by have := hS _ hs; omega) h.k2⟩
theorem KAt.below {w w1 : World} {b : Nat} (h : KAt w b) (ho : Below w.heap.size w w1) : KAt w1 b := h.only (Only.of_below (S := fun _ => False) ho) (fun _ h => h.elim)
theorem kits_at (w : World) : KAt (kW w) w.heap.size := by
  refine ⟨((At.new w 5 #[.int .u8 1, .int .u8 2]).alloc _).alloc _, ?_, ?_⟩
  · have e := At.new (w.alloc (.cells #[.int .u8 1, .int .u8 2] 5)) 5 #[.int .u8 1, .int .u8 2]
    rw [World.size_alloc] at e
    exact e.alloc _
  · have e := At.new ((w.alloc (.cells #[.int .u8 1, .int .u8 2] 5)).alloc (.cells #[.int .u8 1, .int .u8 2] 5)) 50 #[.string ⟨#[97]⟩, .bool true, .slice none 0 0, .string ⟨#[97, 47, 120]⟩, .bool false, .slice (some ⟨w.heap.size, 0, none⟩) 2 2, .string ⟨#[98]⟩, .bool false, .slice (some ⟨w.heap.size + 1, 0, none⟩) 2 2]
    rw [World.size_alloc, World.size_alloc] at e
    exact e
theorem KAt.rd {w : World} {b : Nat} (h : KAt w b) : RdI w w.heap.size (some ⟨b + 1 + 1, 0, none⟩) kits := fun _ => by
  have hc : ∀ b, At w b 5 [.int .u8 1, .int .u8 2] → ∀ k, k < kb1.length → w.cell? ((⟨b, 0, none⟩ : Addr).add k) = some (bv (kb1.getD k 0)) := fun b hb k hk => by
    rw [Addr.add_mid, hb.cell]
    have hk2 : k < 2 := hk
    rcases k with _ | _ | k
    · rfl
    · rfl
    · omega
  refine ⟨b + 1 + 1, 0, rfl, h.k2.lt, fun j x hx => ?_⟩
  rcases j with _ | _ | _ | j
  · simp [kits] at hx
    subst hx
    exact ⟨none, 0, h.k2.rangeAt 0 3, Nat.zero_le _, fun h => absurd rfl h⟩
  · simp [kits] at hx
    subst hx
    exact ⟨some ⟨b, 0, none⟩, 2, h.k2.rangeAt 3 3, Nat.le_refl _, fun _ => ⟨_, rfl, h.k0.lt, hc _ h.k0⟩⟩
  · simp [kits] at hx
    subst hx
    exact ⟨some ⟨b + 1, 0, none⟩, 2, h.k2.rangeAt 6 3, Nat.le_refl _, fun _ => ⟨_, rfl, h.k1.lt, hc _ h.k1⟩⟩
  · simp [kits] at hx
end Go.Proofs.YtbpfmlckddhgbaaGreatDoor
/- known (16): it answers true. -/
namespace Go.Proofs.YtbpfmlckddhgbaaGreatDoor
set_option linter.unusedVariables false
set_option linter.unusedSimpArgs false
open Go Go.RowKit Go.Maps Go.WideMaps Go.Proofs.YtbpfmlckddhgbaaGreatDoorW.PrintWords Go.Proofs.YtbpfmlckddhgbaaGreatDoorW.PrintLast
theorem kroot : digL kσ0.width (encL kes3) = kd3 := by kernel_rfl
theorem kd3_len : kd3.length = 32 := by kernel_rfl
theorem RdI.tail {w : World} {hi g o : Nat} {x : Itm} {its : List Itm} (h : RdI w hi (some ⟨g, o, none⟩) (x :: its)) : RdI w hi (some ⟨g, o + 3, none⟩) its := fun _ => by
  obtain ⟨g', o', h1, h2, h3⟩ := h (by simp)
  injection h1 with h1
  injection h1 with e1 e2 _
  subst e1 e2
  refine ⟨g, o + 3, rfl, h2, fun j y hy => ?_⟩
  obtain ⟨A', c', g1, g2⟩ := h3 (j + 1) y (by simpa using hy)
  exact ⟨A', c', fun i v hv => by have e := g1 i v hv; rw [show o + (j + 1) * 3 + i = o + 3 + j * 3 + i by omega] at e; exact e, g2⟩
set_option maxRecDepth 8000 in
set_option maxHeartbeats 1000000 in
theorem known_calls (w : World) (hG : Glob w) : Calls Tryz.prog 16 #[] w fun e w' => e = .returned (.bool true) ∧ Below w.heap.size w w' := by
  have HG := Aside0.mk (And.intro hG hG.lt)
  clear hG
  have hnp : ∀ (p : Addr) (w : World), (binOp .eql 38 (.pointer (some p)) (.pointer none)).run Tryz.prog w = .ok (.bool false) w := fun p w => by kernel_rfl
  obtain ⟨dv, hdv⟩ : ∃ dv, dv = digV kd3 := ⟨_, rfl⟩
  have DV := Aside0.mk hdv
  clear hdv
  go_enter Tryz.func16, Tryz.ntmps16
  go_wp2_with (first
    | (go_at_call 32
       refine (snew_calls w 32 1000 (by decide) (by decide) (by decide) (by decide)).mono ?_
       rintro e w1 ⟨s, bm, rfl, hH, hs, hbm, hB⟩
       have H1 := Aside0.mk (show HSt w1 s bm kσ0 (fun _ => none) from hH)
       have B1 := Aside0.mk hB
       have L1 := Aside0.mk (And.intro hs hbm)
       clear hH hs hbm hB)
    | (go_at_call 23
       obtain ⟨W2, hW2⟩ : ∃ W2, W2 = kW w1 := ⟨_, rfl⟩
       have hB2 : Below w1.heap.size w1 W2 := by rw [hW2]; exact kW_below w1
       have hka : KAt W2 w1.heap.size := by rw [hW2]; exact kits_at w1
       have hsz : W2.heap.size = w1.heap.size + 3 := by rw [hW2]; exact kW_size w1
       have h0 := HG.out.2
       have h1 := L1.out
       have hcall := keep_calls W2 s bm kσ0 kσ3 (fun _ => none) W2.heap.size (some ⟨w1.heap.size + 1 + 1, 0, none⟩) 3 kits 10 kes3 3 [kb1, kb2] (H1.out.below hB2) hka.rd (Nat.le_refl _) (by omega) ((HG.out.1.below B1.out).below hB2) ⟨by omega, by omega⟩ (by decide) ktree krow kok (by decide) kput
       rw [kroot, ← DV.out, hW2] at hcall
       refine hcall.mono ?_
       rw [← hW2]
       rintro e w3 ⟨rfl, ⟨M3, hM3⟩, hO3⟩
       have H3 := Aside0.mk hM3
       have hsl : s < w1.heap.size ∧ bm < w1.heap.size := ⟨H1.out.cells.lt, H1.out.map.lt⟩
       have KA := Aside0.mk (hka.only hO3 (fun k hk => by omega))
       have SL := Aside0.mk (show s < w1.heap.size ∧ bm < w1.heap.size ∧ w1.heap.size + 3 ≤ w3.heap.size ∧ w.heap.size ≤ w1.heap.size from ⟨hsl.1, hsl.2, by have := hO3.size; omega, B1.out.size⟩)
       have B3 := Aside0.mk (show Below w.heap.size w w3 from (B1.out.trans (hB2.mono B1.out.size)).trans (hO3.to_below (by have := B1.out.size; omega) (fun b hb => by omega)))
       clear hB2 hka hsl hsz h0 h1 hcall hM3 hO3 hW2)
    | (refine arm_alloc rfl 27 rfl _ _ info27 ?_; intro W4 b4 hb hW
       have hB : Below w3.heap.size w3 W4 := by subst hW; exact (Below.refl _ _).alloc (Nat.le_refl _) _
       have hN : At W4 b4 27 (List.replicate 32 (bv 0)) := by subst hW hb; exact At.new _ _ _
       have F4 := Aside0.mk (H3.out.off (b := b4) (by omega))
       have L4 := Aside0.mk (show b4 = w3.heap.size from hb)
       have H4 := Aside0.mk (H3.out.below hB)
       have KA := Aside0.mk (KA.out.below hB)
       have B4 := Aside0.mk (B3.out.trans (hB.mono B3.out.size))
       have N4 := Aside0.mk hN
       clear hb hW hB hN)
    | (refine arm_store_row rfl 27 _ _ rfl b4 27 _ (kd3.map bv) rfl DV.out N4.out (by rw [List.length_map, kd3_len]; rfl) (by rw [List.length_map, kd3_len]; exact size27) (one_bv _) ?_
       intro W5 hW
       have hO : Only (· = b4) W4.heap.size W4 W5 := by subst hW; exact Only.setRow (S := (· = b4)) (Only.refl _ _ _) (.inl rfl) _
       have z1 := SL.out
       have z2 := L4.out
       have NB := Aside0.mk (show At W5 b4 27 (kd3.map bv) by subst hW; exact N4.out.setRow _)
       have L5 := Aside0.mk (show b4 < W5.heap.size ∧ W4.heap.size ≤ W5.heap.size from ⟨NB.out.lt, hO.size⟩)
       have H5 := Aside0.mk (H4.out.write hO (by omega) (by omega) F4.out)
       have KA := Aside0.mk (KA.out.only hO (fun k hk => by omega))
       have B5 := Aside0.mk (B4.out.trans (hO.to_below B4.out.size (fun b hb => by have := B3.out.size; omega)))
       clear hW hO z1 z2)
    | (refine arm_load_row rfl 27 _ rfl b4 0 rfl (kd3.map bv) NB.out.rangeAll (by kernel_rfl) (by rw [List.length_map, kd3_len]; exact size27) ?_
       intro v33 hv0
       have hv : v33 = dv := hv0.trans DV.out.symm
       clear hv0
       subst v33)
    | (have G := M6.out
       go_at_call 24
       have hcall := load_calls w6 s bm { kσ3 with gets := 4 } M3 kd3 3 2 4 kdec 10 62 ⟨0, 2, { kσ3 with gets := 7 }, kits.take 2⟩ kdec_ok H6.out kd3_len ⟨of_decide_eq_true (by kernel_rfl), of_decide_eq_true (by kernel_rfl)⟩ (by decide) kload3
       rw [← DV.out] at hcall
       refine hcall.mono ?_
       rintro e w7 ⟨v2, rfl, _, hv2, hH, hO⟩
       have hv2 := hv2 (by decide)
       subst hv2
       have hsl := SL.out
       have H7 := Aside0.mk hH
       have KA := Aside0.mk (KA.out.only hO (fun k hk => by omega))
       have I7 := Aside0.mk (I6.out.only hO (fun b hb hd => by have h1 := L5.out; have h2 := B3.out.size; have h3 := L4.out; omega))
       have B7 := Aside0.mk (B6.out.trans (hO.to_below B6.out.size (fun b hb => by have := L1.out; omega)))
       clear hcall hH hO hsl)
    | (go_at_call 24
       have hcall := load_calls W5 s bm kσ3 M3 kd3 4 2 4 kdec 10 0 ⟨0, 0, { kσ3 with gets := 4 }, kits⟩ kdec_ok H5.out kd3_len ⟨of_decide_eq_true (by kernel_rfl), of_decide_eq_true (by kernel_rfl)⟩ (by decide) kload4
       rw [← DV.out] at hcall
       refine hcall.mono ?_
       rintro e w6 ⟨v, rfl, hI, _, hH, hO⟩
       have hI := hI rfl
       obtain ⟨As, _, ho, _⟩ := hI.row
       obtain ⟨Av, cv, hv, _⟩ := ho.shape
       have hv : v = .slice Av 3 cv := hv
       subst hv
       have hsl := SL.out
       have H6 := Aside0.mk hH
       have I6 := Aside0.mk hI
       have NB := Aside0.mk (hO.at_ NB.out.lt (by have := L4.out; omega) NB.out)
       have KA := Aside0.mk (KA.out.only hO (fun k hk => by omega))
       have B6 := Aside0.mk (B5.out.trans (hO.to_below B5.out.size (fun b hb => by have := L1.out; omega)))
       have M6 := Aside0.mk True.intro
       clear hcall hI ho hH hO hsl)
    | (go_at_call 26
       have hcall := same_items_calls w7 w7.heap.size (some ⟨w1.heap.size + 1 + 1, 0, none⟩) Av 3 cv kits kits KA.out.rd I7.out.rdI.1 (Nat.le_refl _) ⟨by decide, by decide⟩
       rw [ksame] at hcall
       refine hcall.mono ?_
       rintro e w8 ⟨rfl, hB⟩
       have H8 := Aside0.mk (H7.out.below hB)
       have KA := Aside0.mk (KA.out.below hB)
       have B8 := Aside0.mk (B7.out.trans (hB.mono B7.out.size))
       clear hcall hB)
    | (go_at_call 31
       refine (len_calls w8 s bm _ M3 H8.out).mono ?_
       rintro e w9 ⟨rfl, rfl⟩
       rw [show ((({ kσ3 with gets := 7 } : Sto).sz : Nat) : Int) = 3 from by kernel_rfl])
    | (go_at_call 33
       have hcall := check_calls w9 w9.heap.size (some ⟨w1.heap.size + 1 + 1, 3, none⟩) 2 (kits.drop 1) (RdI.tail (x := ⟨⟨#[97]⟩, true, []⟩) KA.out.rd) (Nat.le_refl _) (HG.out.1.below B8.out) (by intro x hx; simp [kits] at hx; rcases hx with rfl | rfl <;> decide) (by decide)
       rw [kbad] at hcall
       refine hcall.mono ?_
       rintro e w10 ⟨rfl, hB⟩
       have B10 := Aside0.mk (B8.out.trans (hB.mono B8.out.size))
       clear hcall hB)
    | fail)
  go_ret
  exact ⟨rfl, B10.out⟩
end Go.Proofs.YtbpfmlckddhgbaaGreatDoor
/- the law's few. -/
namespace Go.Proofs.YtbpfmlckddhgbaaGreatDoor
set_option linter.unusedVariables false
set_option linter.unusedSimpArgs false
open Go Go.RowKit Go.Maps Go.WideMaps Go.Proofs.YtbpfmlckddhgbaaGreatDoorW.PrintWords Go.Proofs.YtbpfmlckddhgbaaGreatDoorW.PrintLast
def dataSum : List Itm → Nat
  | [] => 0
  | x :: xs => x.data.length + dataSum xs
theorem dataSum_snoc : ∀ (xs : List Itm) (x : Itm), dataSum (xs ++ [x]) = dataSum xs + x.data.length
  | [], x => by simp [dataSum]
  | y :: ys, x => by rw [List.cons_append, dataSum, dataSum, dataSum_snoc ys x]; omega
def fewM (its : List Itm) : Bool := decide (its.length ≤ 3000) && decide (dataSum its ≤ 4194304)
set_option maxRecDepth 8000 in
set_option maxHeartbeats 1000000 in
theorem few_calls (w : World) (hi : Nat) (A : Option Addr) (c : Nat) (its : List Itm) (hI : RdI w hi A its) (hdl : ∀ x ∈ its, x.data.length ≤ 1099511627776) (hlen : its.length ≤ 1099511627776) :
    Calls Tryz.prog 17 #[.slice A its.length c] w fun e w' => e = .returned (.bool (fewM its)) ∧ w' = w := by
  have HI := Aside0.mk hI
  have DL := Aside0.mk hdl
  obtain ⟨R, hR⟩ : ∃ R, R = fewM its := ⟨_, rfl⟩
  rw [← hR]
  have RR := Aside0.mk hR
  clear hI hdl hR
  go_enter Tryz.func17, Tryz.ntmps17
  go_wp2_with fail
  go_loopg [3, 4] 3001 (fun g n i wr => wr = w ∧ ∃ k : Nat, Aside0 (k + g = 3001) ∧ i = .int .i64 k ∧ n = .int .i64 (dataSum (its.take k) : Int) ∧ k ≤ its.length ∧ dataSum (its.take k) ≤ k * 1099511627776)
  case atStart => exact ⟨rfl, 0, ⟨by omega⟩, rfl, rfl, Nat.zero_le _, by simp [dataSum]⟩
  case round =>
    obtain ⟨rfl, k, HJ, rfl, rfl, hk, hs⟩ := hrel
    obtain ⟨n, hn⟩ : ∃ n, n = dataSum (its.take k) := ⟨_, rfl⟩
    rw [← hn] at hs ⊢
    have NN := Aside0.mk hn
    have hk3 : k ≤ 3001 := by have := HJ.out; omega
    clear hn
    by_cases hlt : k < its.length
    · by_cases h3 : k ≤ 3000
      · obtain ⟨x, hx⟩ : ∃ x, its[k]? = some x := ⟨_, List.getElem?_eq_getElem hlt⟩
        obtain ⟨g0, o0, hA, _, hits⟩ := HI.out (by intro h; rw [h] at hlt; simp at hlt)
        obtain ⟨A', c', hrow, _, _⟩ := hits k x hx
        subst hA
        obtain ⟨m, hm⟩ : ∃ m, m = x.data.length := ⟨_, rfl⟩
        have kx : wr.cell? ⟨g0, o0 + k * 3 + 2, none⟩ = some (.slice A' m c') := by rw [hm]; exact hrow 2 _ rfl
        have hmb : m ≤ 1099511627776 := by rw [hm]; exact DL.out x (List.mem_of_getElem? hx)
        have SN := Aside0.mk (show dataSum (its.take (k + 1)) = n + m by rw [List.take_add_one, hx, NN.out, hm]; exact dataSum_snoc _ x)
        have t1 : decide ((k : Int) ≤ 3000) = true := decide_eq_true (by omega)
        clear hits hrow hx hm
        go_wp2_with fail
        go_roundg (3001 - (k + 1))
        case measure => have := HJ.out; omega
        case rel => exact ⟨rfl, k + 1, ⟨by have := HJ.out; omega⟩, by go_num, by rw [SN.out]; go_num, by omega, by rw [SN.out]; omega⟩
      · have t1 : decide ((k : Int) ≤ 3000) = false := decide_eq_false (by omega)
        have t2 : decide ((its.length : Int) ≤ 3000) = false := decide_eq_false (by omega)
        have HR := Aside0.mk (show R = false by rw [RR.out]; unfold fewM; rw [decide_eq_false (by omega)]; rfl)
        go_wp2_with fail
        go_ret
        exact ⟨by rw [HR.out]; rfl, rfl⟩
    · have hke : k = its.length := by omega
      have HS := Aside0.mk (show dataSum its = n by rw [NN.out, hke, List.take_length])
      by_cases h3 : its.length ≤ 3000
      · have t2 : decide ((its.length : Int) ≤ 3000) = true := decide_eq_true (by omega)
        by_cases h4 : n ≤ 4194304
        · have t3 : decide ((n : Int) ≤ 4194304) = true := decide_eq_true (by omega)
          have HR := Aside0.mk (show R = true by rw [RR.out]; unfold fewM; rw [decide_eq_true h3, HS.out, decide_eq_true h4]; rfl)
          go_wp2_with fail
          go_ret
          exact ⟨by rw [HR.out]; rfl, rfl⟩
        · have t3 : decide ((n : Int) ≤ 4194304) = false := decide_eq_false (by omega)
          have HR := Aside0.mk (show R = false by rw [RR.out]; unfold fewM; rw [decide_eq_true h3, HS.out, decide_eq_false h4]; rfl)
          go_wp2_with fail
          go_ret
          exact ⟨by rw [HR.out]; rfl, rfl⟩
      · have t2 : decide ((its.length : Int) ≤ 3000) = false := decide_eq_false (by omega)
        have HR := Aside0.mk (show R = false by rw [RR.out]; unfold fewM; rw [decide_eq_false h3]; rfl)
        go_wp2_with fail
        go_ret
        exact ⟨by rw [HR.out]; rfl, rfl⟩
end Go.Proofs.YtbpfmlckddhgbaaGreatDoor
/- path: Under. -/
namespace Go.Proofs.YtbpfmlckddhgbaaGreatDoor
set_option linter.unusedVariables false
set_option linter.unusedSimpArgs false
open Go Go.RowKit Go.Proofs.YtbpfmlckddhgbaaGreatDoorW.PrintWords
theorem str_row {w : World} {base : Nat} {ok : Nat → Prop} {v : Value} {xs : List ByteArray} (h : Kd.R Kd.string 9 w base ok v xs) :
    ∃ A c, v = .slice A xs.length c ∧ xs.length ≤ c ∧ (0 < xs.length → ∃ g, A = some ⟨g, 0, none⟩ ∧ g < w.heap.size ∧ ∀ j, j < xs.length → w.cell? ⟨g, 0 + j, none⟩ = some (.string (xs.getD j ByteArray.empty))) := by
  obtain ⟨A, c, hv, hc, hC⟩ := Kd.R_reads h
  refine ⟨A, c, hv, hc, fun h0 => ?_⟩
  obtain ⟨inner, ho⟩ := Kd.R_own h
  obtain ⟨_, ⟨hn, hz⟩ | ⟨g, cap, cur, hv2, _, hcell, _⟩⟩ := ho
  · omega
  · rw [hv] at hv2
    injection hv2 with e1 _ _
    refine ⟨g, e1, (Array.getElem?_eq_some_iff.1 hcell).1, fun j hj => ?_⟩
    obtain ⟨ad, h1, h2⟩ := C_at hC ByteArray.empty j hj
    rw [e1] at h1
    injection h1 with h1
    rw [← h1, Addr.add_mid] at h2
    exact h2
theorem under_calls (a b : ByteArray) (w : World) (hG : Glob w) (ha : a.size ≤ 1048575) (hb : b.size ≤ 1048575) : Calls Tryz.prog 61 #[.string a, .string b] w fun e w' => e = .returned (.bool (under a b)) ∧ Below w.heap.size w w' := by
  have la := parts_len a ha
  have lb := parts_len b hb
  obtain ⟨n1, hn1⟩ : ∃ n, n = (parts a).length := ⟨_, rfl⟩
  obtain ⟨n2, hn2⟩ : ∃ n, n = (parts b).length := ⟨_, rfl⟩
  rw [← hn1] at la
  rw [← hn2] at lb
  have N1 := Aside0.mk hn1
  have N2 := Aside0.mk hn2
  clear hn1 hn2
  obtain ⟨R, hR⟩ : ∃ R, R = under a b := ⟨_, rfl⟩
  rw [← hR]
  have RR := Aside0.mk hR
  clear hR
  have PA := Aside0.mk (fun w hG => parts_calls a w hG (by omega))
  have PB := Aside0.mk (fun w hG => parts_calls b w hG (by omega))
  have HG := Aside0.mk hG
  clear hG
  by_cases hle : n1 ≤ n2
  · have t1 : decide ((n1 : Int) ≤ (n2 : Int)) = true := decide_eq_true (by omega)
    go_enter Tryz.func61, Tryz.ntmps61
    go_wp2_with fail
    refine (PA.out w HG.out).mono ?_
    rintro e w1 ⟨v1, rfl, hR1, hb1⟩
    obtain ⟨A1, c1, hv1, hc1, hr1⟩ := str_row hR1
    rw [← N1.out] at hv1 hc1 hr1
    subst hv1
    have S1 := Aside0.mk hr1
    have B1 := Aside0.mk hb1
    clear hR1 hb1 hr1
    go_wp2_with fail
    refine (PB.out w1 (HG.out.below B1.out)).mono ?_
    rintro e w2 ⟨v2, rfl, hR2, hb2⟩
    obtain ⟨A2, c2, hv2, hc2, hr2⟩ := str_row hR2
    rw [← N2.out] at hv2 hc2 hr2
    subst hv2
    have S2 := Aside0.mk hr2
    have B2 := Aside0.mk hb2
    clear hR2 hb2 hr2
    have hcall : Calls Tryz.prog 109 #[.slice A1 n1 c1, .slice A2 n1 c2] w2 fun e w' => e = .returned (.bool R) ∧ Below w2.heap.size w2 w' := by
      rcases Nat.eq_zero_or_pos n1 with h0 | h0
      · subst h0
        refine (Tryz.slices_Equal_string_empty A1 A2 c1 0 c2 w2 (by omega)).mono ?_
        rintro e w' ⟨rfl, rfl⟩
        refine ⟨?_, Below.refl _ _⟩
        have h1 : parts a = [] := List.eq_nil_of_length_eq_zero N1.out.symm
        rw [RR.out]; unfold under; rw [h1]; simp
      · obtain ⟨g1, hA1, hg1, hc1'⟩ := S1.out h0
        obtain ⟨g2, hA2, hg2, hc2'⟩ := S2.out (by omega)
        subst hA1 hA2
        refine (Tryz.slices_Equal_string g1 0 n1 c1 g2 0 n1 c2 (parts a) (parts b) w2 (by rw [← N1.out]; exact Nat.le_refl _) (by rw [← N2.out]; exact hle) (by omega) (by omega) (fun j hj => by rw [← N1.out] at hj; rw [B2.out.cell (p := ⟨g1, 0 + j, none⟩) hg1]; exact hc1' j hj) (fun j hj => by rw [← N2.out] at hj; exact hc2' j hj)).mono ?_
        rintro e w' ⟨rfl, q, rfl⟩
        refine ⟨?_, ⟨rfl, rfl, rfl, Nat.le_refl _, fun _ _ => rfl⟩⟩
        rw [RR.out]; unfold under
        rw [← N1.out, ← N2.out, decide_eq_true hle, Bool.true_and, show (parts a).take n1 = parts a from List.take_of_length_le (by rw [← N1.out]; exact Nat.le_refl _)]
    have HC := Aside0.mk hcall
    clear hcall
    go_wp2_with fail
    refine HC.out.mono ?_
    rintro e w3 ⟨rfl, hB3⟩
    have B3 := Aside0.mk hB3
    clear hB3
    go_wp2_with fail
    go_ret
    exact ⟨rfl, below_then (below_then B1.out B1.out.size B2.out) (Nat.le_trans B1.out.size B2.out.size) B3.out⟩
  · have t1 : decide ((n1 : Int) ≤ (n2 : Int)) = false := decide_eq_false (by omega)
    go_enter Tryz.func61, Tryz.ntmps61
    go_wp2_with fail
    refine (PA.out w HG.out).mono ?_
    rintro e w1 ⟨v1, rfl, hR1, hb1⟩
    obtain ⟨A1, c1, hv1, hc1, hr1⟩ := str_row hR1
    rw [← N1.out] at hv1
    subst hv1
    have B1 := Aside0.mk hb1
    clear hR1 hb1 hr1 hc1
    go_wp2_with fail
    refine (PB.out w1 (HG.out.below B1.out)).mono ?_
    rintro e w2 ⟨v2, rfl, hR2, hb2⟩
    obtain ⟨A2, c2, hv2, hc2, hr2⟩ := str_row hR2
    rw [← N2.out] at hv2
    subst hv2
    have B2 := Aside0.mk hb2
    clear hR2 hb2 hr2 hc2
    go_wp2_with fail
    go_ret
    refine ⟨?_, below_then B1.out B1.out.size B2.out⟩
    rw [RR.out]; unfold under
    rw [← N1.out, ← N2.out, decide_eq_false hle]; rfl
end Go.Proofs.YtbpfmlckddhgbaaGreatDoor
/- tree: CheckKeep. -/
namespace Go.Proofs.YtbpfmlckddhgbaaGreatDoor
set_option linter.unusedVariables false
set_option linter.unusedSimpArgs false
open Go Go.RowKit Go.Proofs.YtbpfmlckddhgbaaGreatDoorW.PrintWords
def RdS (w : World) (hi : Nat) (A : Option Addr) (ps : List ByteArray) : Prop := ps ≠ [] → ∃ g o, A = some ⟨g, o, none⟩ ∧ g < hi ∧ ∀ (j : Nat) (p : ByteArray), ps[j]? = some p → w.cell? ⟨g, o + j, none⟩ = some (.string p)
theorem RdS.below {w w1 : World} {hi B : Nat} {A : Option Addr} {ps : List ByteArray} (h : RdS w hi A ps) (hb : Below B w w1) (hB : hi ≤ B) : RdS w1 hi A ps := fun hne => by
  obtain ⟨g, o, h1, h2, h3⟩ := h hne
  exact ⟨g, o, h1, h2, fun j p hp => by rw [hb.cell (p := ⟨g, o + j, none⟩) (by show g < B; omega)]; exact h3 j p hp⟩
def keepOk : Option ByteArray → List ByteArray → Bool
  | _, [] => true
  | prev, p :: ps => isClean p && ((match prev with | none => true | some q => less q p && !under q p) && keepOk (some p) ps)
theorem keepOk_cons (prev : Option ByteArray) (p : ByteArray) (ps : List ByteArray) : keepOk prev (p :: ps) = (isClean p && ((match prev with | none => true | some q => less q p && !under q p) && keepOk (some p) ps)) := by cases prev <;> rfl
def isKeepM (ps : List ByteArray) : Bool := decide (ps.length ≤ 64) && keepOk none ps
def prevS (ps : List ByteArray) : Nat → Option ByteArray
  | 0 => none
  | j + 1 => ps[j]?
set_option maxRecDepth 8000 in
set_option maxHeartbeats 2000000 in
theorem checkKeep_calls (w : World) (hi : Nat) (A : Option Addr) (c : Nat) (ps : List ByteArray) (hR : RdS w hi A ps) (hhi : hi ≤ w.heap.size) (hG : Glob w) (hlen : ps.length ≤ 1099511627776) :
    Calls Tryz.prog 39 #[.slice A ps.length c] w fun e w' => e = .returned (.int .i64 (if isKeepM ps then 0 else 65)) ∧ Below w.heap.size w w' := by
  obtain ⟨rn, hrn⟩ : ∃ rn : Int, rn = if isKeepM ps then 0 else 65 := ⟨_, rfl⟩
  rw [← hrn]
  have RN := Aside0.mk hrn
  have HR0 := Aside0.mk hR
  have HH := Aside0.mk hhi
  have HG := Aside0.mk hG
  clear hrn hR hhi hG
  by_cases hl : ps.length ≤ 64
  · obtain ⟨R, hR⟩ : ∃ R, R = keepOk none ps := ⟨_, rfl⟩
    have RK := Aside0.mk (show isKeepM ps = R by unfold isKeepM; rw [decide_eq_true hl, hR]; rfl)
    have RR := Aside0.mk (show R = keepOk (prevS ps 0) (ps.drop 0) from hR)
    have t1 : decide ((ps.length : Int) > 64) = false := decide_eq_false (by omega)
    clear hR
    go_enter Tryz.func39, Tryz.ntmps39
    go_wp2_with fail
    go_loopg [10] ps.length (fun g i wr => ∃ j : Nat, Aside0 (j + g = ps.length) ∧ i = .int .i64 j ∧ Aside0 (R = keepOk (prevS ps j) (ps.drop j)) ∧ Aside0 (Below w.heap.size w wr) ∧ Aside0 (∀ q, prevS ps j = some q → q.size ≤ 4096))
    case atStart => exact ⟨0, ⟨by omega⟩, rfl, RR, ⟨Below.refl _ _⟩, ⟨fun q hq => by simp [prevS] at hq⟩⟩
    case round =>
      obtain ⟨j, HJ, rfl, HR, HB, HP⟩ := hrel
      by_cases hlt : j < ps.length
      · obtain ⟨p, hp⟩ : ∃ p, ps[j]? = some p := ⟨_, List.getElem?_eq_getElem hlt⟩
        obtain ⟨g0, o0, hA, hg0, hits⟩ := (HR0.out.below HB.out HH.out) (by intro h; rw [h] at hlt; simp at hlt)
        subst hA
        have kp : wr.cell? ⟨g0, o0 + j, none⟩ = some (.string p) := hits j p hp
        have hr := HR.out
        rw [List.drop_eq_getElem_cons hlt, (List.getElem?_eq_some_iff.1 hp).2, keepOk_cons] at hr
        have PV := Aside0.mk (show prevS ps (j + 1) = some p from hp)
        have GW := Aside0.mk (HG.out.below HB.out)
        rcases hcl : isClean p with _ | _
        · have HRR := Aside0.mk (show R = false by rw [hr, hcl]; rfl)
          have CL := Aside0.mk hcl
          clear hr hcl hits
          go_wp2_with (first
            | (go_at_call 52
               refine (isClean_calls p wr GW.out).mono ?_
               rintro e w52 ⟨rfl, hB⟩
               rw [CL.out]
               have B52 := Aside0.mk hB
               clear hB)
            | fail)
          go_ret
          exact ⟨by rw [RN.out, RK.out, HRR.out]; rfl, HB.out.trans (B52.out.mono HB.out.size)⟩
        · have PS := Aside0.mk (isClean_size hcl)
          rcases Nat.eq_zero_or_pos j with hj | hj
          · have HRR := Aside0.mk (show R = keepOk (some p) (ps.drop (j + 1)) by rw [hr, hcl, hj]; rfl)
            have tj : decide ((j : Int) > 0) = false := decide_eq_false (by omega)
            have tjb : decide (0 < (j : Int)) = false := decide_eq_false (by omega)
            have tjc : decide (0 < j) = false := decide_eq_false (by omega)
            have CL := Aside0.mk hcl
            clear hr hcl hits hj
            go_wp2_with (first
            | (go_at_call 52
               refine (isClean_calls p wr GW.out).mono ?_
               rintro e w52 ⟨rfl, hB⟩
               rw [CL.out]
               have B52 := Aside0.mk hB
               clear hB)
            | fail)
            go_roundg (ps.length - (j + 1))
            case measure => have := HJ.out; omega
            case rel => exact ⟨j + 1, ⟨by have := HJ.out; omega⟩, by go_num, ⟨by rw [PV.out]; exact HRR.out⟩, ⟨HB.out.trans (B52.out.mono HB.out.size)⟩, ⟨fun q hq => by rw [PV.out] at hq; injection hq with hq; rw [← hq]; exact PS.out⟩⟩
          · obtain ⟨k, rfl⟩ : ∃ k, j = k + 1 := ⟨j - 1, by omega⟩
            obtain ⟨q, hq⟩ : ∃ q, ps[k]? = some q := ⟨_, List.getElem?_eq_getElem (by omega)⟩
            have kq : wr.cell? ⟨g0, o0 + k, none⟩ = some (.string q) := hits k q hq
            have QS := Aside0.mk (HP.out q hq)
            have tj : decide (((k : Int) + 1) > 0) = true := decide_eq_true (by omega)
            rw [show ((k + 1 : Nat) : Int) = (k : Int) + 1 by omega]
            rw [show prevS ps (k + 1) = some q from hq, hcl] at hr
            simp only [Bool.true_and] at hr
            have G0 := Aside0.mk hg0
            have CL := Aside0.mk hcl
            clear hcl hits hq
            rcases hls : less q p with _ | _
            · have HRR := Aside0.mk (show R = false by rw [hr, hls]; rfl)
              have LS := Aside0.mk hls
              clear hr hls
              go_wp2_with (first
            | (go_at_call 52
               refine (isClean_calls p wr GW.out).mono ?_
               rintro e w52 ⟨rfl, hB⟩
               rw [CL.out]
               have B52 := Aside0.mk hB
               have kq : w52.cell? ⟨g0, o0 + k, none⟩ = some (.string q) := by rw [hB.cell (p := ⟨g0, o0 + k, none⟩) (by show g0 < _; have h1 := G0.out; have h2 := HH.out; have h3 := HB.out.size; omega)]; exact kq
               clear hB)
            | (go_at_call 60
               refine (less_calls q p w52 (GW.out.below B52.out) (by have := QS.out; omega) (by have := PS.out; omega)).mono ?_
               rintro e w60 ⟨rfl, hB⟩
               rw [LS.out]
               have B60 := Aside0.mk hB
               have kq : w60.cell? ⟨g0, o0 + k, none⟩ = some (.string q) := by rw [hB.cell (p := ⟨g0, o0 + k, none⟩) (by show g0 < _; have h1 := G0.out; have h2 := HH.out; have h3 := HB.out.size; have h4 := B52.out.size; omega)]; exact kq
               clear hB)
            | fail)
              go_ret
              exact ⟨by rw [RN.out, RK.out, HRR.out]; rfl, (HB.out.trans (B52.out.mono HB.out.size)).trans (B60.out.mono (Nat.le_trans HB.out.size B52.out.size))⟩
            · have LS := Aside0.mk hls
              rcases hun : under q p with _ | _
              · have HRR := Aside0.mk (show R = keepOk (some p) (ps.drop (k + 1 + 1)) by rw [hr, hls, hun]; rfl)
                have UN := Aside0.mk hun
                clear hr hls hun
                go_wp2_with (first
            | (go_at_call 52
               refine (isClean_calls p wr GW.out).mono ?_
               rintro e w52 ⟨rfl, hB⟩
               rw [CL.out]
               have B52 := Aside0.mk hB
               have kq : w52.cell? ⟨g0, o0 + k, none⟩ = some (.string q) := by rw [hB.cell (p := ⟨g0, o0 + k, none⟩) (by show g0 < _; have h1 := G0.out; have h2 := HH.out; have h3 := HB.out.size; omega)]; exact kq
               clear hB)
            | (go_at_call 60
               refine (less_calls q p w52 (GW.out.below B52.out) (by have := QS.out; omega) (by have := PS.out; omega)).mono ?_
               rintro e w60 ⟨rfl, hB⟩
               rw [LS.out]
               have B60 := Aside0.mk hB
               have kq : w60.cell? ⟨g0, o0 + k, none⟩ = some (.string q) := by rw [hB.cell (p := ⟨g0, o0 + k, none⟩) (by show g0 < _; have h1 := G0.out; have h2 := HH.out; have h3 := HB.out.size; have h4 := B52.out.size; omega)]; exact kq
               clear hB)
            | (go_at_call 61
               refine (under_calls q p w60 ((GW.out.below B52.out).below B60.out) (by have := QS.out; omega) (by have := PS.out; omega)).mono ?_
               rintro e w61 ⟨rfl, hB⟩
               rw [UN.out]
               have B61 := Aside0.mk hB
               clear hB)
            | fail)
                go_roundg (ps.length - (k + 1 + 1))
                case measure => have := HJ.out; omega
                case rel => exact ⟨k + 1 + 1, ⟨by have := HJ.out; omega⟩, by go_num, ⟨by rw [PV.out]; exact HRR.out⟩, ⟨((HB.out.trans (B52.out.mono HB.out.size)).trans (B60.out.mono (Nat.le_trans HB.out.size B52.out.size))).trans (B61.out.mono (Nat.le_trans (Nat.le_trans HB.out.size B52.out.size) B60.out.size))⟩, ⟨fun q hq => by rw [PV.out] at hq; injection hq with hq; rw [← hq]; exact PS.out⟩⟩
              · have HRR := Aside0.mk (show R = false by rw [hr, hls, hun]; rfl)
                have UN := Aside0.mk hun
                clear hr hls hun
                go_wp2_with (first
            | (go_at_call 52
               refine (isClean_calls p wr GW.out).mono ?_
               rintro e w52 ⟨rfl, hB⟩
               rw [CL.out]
               have B52 := Aside0.mk hB
               have kq : w52.cell? ⟨g0, o0 + k, none⟩ = some (.string q) := by rw [hB.cell (p := ⟨g0, o0 + k, none⟩) (by show g0 < _; have h1 := G0.out; have h2 := HH.out; have h3 := HB.out.size; omega)]; exact kq
               clear hB)
            | (go_at_call 60
               refine (less_calls q p w52 (GW.out.below B52.out) (by have := QS.out; omega) (by have := PS.out; omega)).mono ?_
               rintro e w60 ⟨rfl, hB⟩
               rw [LS.out]
               have B60 := Aside0.mk hB
               have kq : w60.cell? ⟨g0, o0 + k, none⟩ = some (.string q) := by rw [hB.cell (p := ⟨g0, o0 + k, none⟩) (by show g0 < _; have h1 := G0.out; have h2 := HH.out; have h3 := HB.out.size; have h4 := B52.out.size; omega)]; exact kq
               clear hB)
            | (go_at_call 61
               refine (under_calls q p w60 ((GW.out.below B52.out).below B60.out) (by have := QS.out; omega) (by have := PS.out; omega)).mono ?_
               rintro e w61 ⟨rfl, hB⟩
               rw [UN.out]
               have B61 := Aside0.mk hB
               clear hB)
            | fail)
                go_ret
                exact ⟨by rw [RN.out, RK.out, HRR.out]; rfl, ((HB.out.trans (B52.out.mono HB.out.size)).trans (B60.out.mono (Nat.le_trans HB.out.size B52.out.size))).trans (B61.out.mono (Nat.le_trans (Nat.le_trans HB.out.size B52.out.size) B60.out.size))⟩
      · obtain rfl : j = ps.length := by have := HJ.out; omega
        have HRR := Aside0.mk (show R = true by rw [HR.out, List.drop_length]; cases prevS ps ps.length <;> rfl)
        go_wp2_with fail
        go_ret
        exact ⟨by rw [RN.out, RK.out, HRR.out]; rfl, HB.out⟩
  · have RK := Aside0.mk (show isKeepM ps = false by unfold isKeepM; rw [decide_eq_false hl]; rfl)
    have t1 : decide ((ps.length : Int) > 64) = true := decide_eq_true (by omega)
    go_enter Tryz.func39, Tryz.ntmps39
    go_wp2_with fail
    go_ret
    exact ⟨by rw [RN.out, RK.out]; rfl, Below.refl _ _⟩
end Go.Proofs.YtbpfmlckddhgbaaGreatDoor
/- tree: Find's search. -/
namespace Go.Proofs.YtbpfmlckddhgbaaGreatDoor
set_option linter.unusedVariables false
set_option linter.unusedSimpArgs false
open Go Go.RowKit Go.Maps Go.WideMaps Go.Proofs.YtbpfmlckddhgbaaGreatDoorW.PrintWords
theorem find1_calls (w : World) (x : Itm) (A : Option Addr) (c bp : Nat) (p : ByteArray) (v : Value) (hv : v = .agg (icells x A c).toArray) (hp : At w bp 9 [.string p]) :
    Calls Tryz.prog 94 #[v, .pointer (some ⟨bp, 0, none⟩)] w fun e w' => e = .returned (.bool (x.path.toList == p.toList)) ∧ Below w.heap.size w w' := by
  have HV := Aside0.mk hv
  have HP := Aside0.mk hp
  clear hv hp
  go_enter Tryz.func94, Tryz.ntmps94
  go_wp2_with (first
    | (refine arm_box rfl 50 _ rfl (icells x A c) HV.out ?_; intro W2 b2 hb hW
       have hB : Below w.heap.size w W2 := by subst hW; exact (Below.refl _ _).alloc (Nat.le_refl _) _
       have hN : At W2 b2 50 (icells x A c) := by subst hW hb; exact At.new _ _ _
       have k0 : W2.cell? ⟨b2, 0, none⟩ = some (.string x.path) := by rw [hN.cell]; rfl
       have k1 : W2.cell? ⟨bp, 0, none⟩ = some (.string p) := by rw [(HP.out.below hB HP.out.lt).cell]; rfl
       have B := Aside0.mk hB
       clear hb hW hB hN)
    | fail)
  go_ret
  exact ⟨rfl, B.out⟩
def findM (p : ByteArray) : List Itm → Option Nat
  | [] => none
  | x :: xs => if (x.path.toList == p.toList) = true then some 0 else (findM p xs).map (· + 1)
def findFrom (p : ByteArray) (xs : List Itm) (k : Nat) : Int := match findM p xs with | none => -1 | some j => ((k + j : Nat) : Int)
theorem findFrom_yes {p : ByteArray} {x : Itm} {xs : List Itm} {k : Nat} (h : (x.path.toList == p.toList) = true) : findFrom p (x :: xs) k = k := by unfold findFrom findM; rw [if_pos h]; rfl
theorem findFrom_no {p : ByteArray} {x : Itm} {xs : List Itm} {k : Nat} (h : (x.path.toList == p.toList) = false) : findFrom p (x :: xs) k = findFrom p xs (k + 1) := by
  unfold findFrom
  rw [findM, if_neg (by rw [h]; decide)]
  cases findM p xs with
  | none => rfl
  | some j => show ((k + (j + 1) : Nat) : Int) = ((k + 1 + j : Nat) : Int); omega
set_option maxRecDepth 4000 in
theorem indexFunc_calls (w : World) (hi : Nat) (A : Option Addr) (c bp : Nat) (p : ByteArray) (its : List Itm) (hI : RdI w hi A its) (hhi : hi ≤ w.heap.size) (hp : At w bp 9 [.string p]) (hlen : its.length < 1048576) :
    Calls Tryz.prog 93 #[.slice A its.length c, .func (.func 94) #[] #[.pointer (some ⟨bp, 0, none⟩)]] w fun e w' => e = .returned (.int .i64 (findFrom p its 0)) ∧ Below w.heap.size w w' := by
  have HI := Aside0.mk hI
  have HH := Aside0.mk hhi
  have HP := Aside0.mk hp
  obtain ⟨R, hR⟩ : ∃ R, R = findFrom p its 0 := ⟨_, rfl⟩
  rw [← hR]
  have RR := Aside0.mk (show R = findFrom p (its.drop 0) 0 from hR)
  clear hI hhi hp hR
  go_enter Tryz.func93, Tryz.ntmps93
  go_wp2_with fail
  go_loopg [8] its.length (fun g i wr => ∃ j : Nat, Aside0 (j + g = its.length) ∧ i = .int .i64 j ∧ Aside0 (R = findFrom p (its.drop j) j) ∧ Aside0 (Below w.heap.size w wr))
  case atStart => exact ⟨0, ⟨by omega⟩, rfl, RR, ⟨Below.refl _ _⟩⟩
  case round =>
    obtain ⟨j, HJ, rfl, HR, HB⟩ := hrel
    by_cases hlt : j < its.length
    · obtain ⟨x, hx⟩ : ∃ x, its[j]? = some x := ⟨_, List.getElem?_eq_getElem hlt⟩
      have hr := HR.out
      rw [List.drop_eq_getElem_cons hlt, (List.getElem?_eq_some_iff.1 hx).2] at hr
      obtain ⟨g0, o0, hA, _, hits⟩ := (HI.out.only (Only.of_below (S := fun _ => False) HB.out) HH.out (fun _ h => h.elim)) (by intro h; rw [h] at hlt; simp at hlt)
      obtain ⟨A', c', hrow, _, _⟩ := hits j x hx
      subst hA
      have ROW := Aside0.mk hrow
      have HP2 := Aside0.mk (HP.out.below HB.out HP.out.lt)
      clear hits hrow hx
      rcases hq : (x.path.toList == p.toList) with _ | _
      · rw [findFrom_no hq] at hr
        have HQ := Aside0.mk hq
        have HR2 := Aside0.mk hr
        clear hq hr
        go_wp2_with (first
          | (refine arm_load_row rfl 50 _ rfl g0 (o0 + j * 3) rfl (icells x A' c') ROW.out row50 size50 ?_
             intro v15 hv
             have V15 := Aside0.mk hv
             clear hv)
          | (go_at_call 94
             refine (find1_calls wr x A' c' bp p v15 V15.out HP2.out).mono ?_
             rintro e w16 ⟨rfl, hB⟩
             rw [HQ.out]
             have B16 := Aside0.mk hB
             clear hB)
          | fail)
        go_roundg (its.length - (j + 1))
        case measure => have := HJ.out; omega
        case rel => exact ⟨j + 1, ⟨by have := HJ.out; omega⟩, by go_num, HR2, ⟨HB.out.trans (B16.out.mono HB.out.size)⟩⟩
      · rw [findFrom_yes hq] at hr
        have HQ := Aside0.mk hq
        have HR2 := Aside0.mk hr
        clear hq hr
        go_wp2_with (first
          | (refine arm_load_row rfl 50 _ rfl g0 (o0 + j * 3) rfl (icells x A' c') ROW.out row50 size50 ?_
             intro v15 hv
             have V15 := Aside0.mk hv
             clear hv)
          | (go_at_call 94
             refine (find1_calls wr x A' c' bp p v15 V15.out HP2.out).mono ?_
             rintro e w16 ⟨rfl, hB⟩
             rw [HQ.out]
             have B16 := Aside0.mk hB
             clear hB)
          | fail)
        go_ret
        exact ⟨by rw [HR2.out]; rfl, HB.out.trans (B16.out.mono HB.out.size)⟩
    · obtain rfl : j = its.length := by have := HJ.out; omega
      have HRR := Aside0.mk (show R = -1 by rw [HR.out, List.drop_length]; rfl)
      go_wp2_with fail
      go_ret
      exact ⟨by rw [HRR.out]; rfl, HB.out⟩
end Go.Proofs.YtbpfmlckddhgbaaGreatDoor
/- Plain law of Cut: the order of paths, what lies under what; what is left of a tree is a tree; cut again it is itself. No program is walked here. -/
namespace Go.Proofs.YtbpfmlckddhgbaaGreatDoor
set_option linter.unusedVariables false
open Go
def bl (a b : ByteArray) : Prop := Op.bytesLess a.toList b.toList = true
theorem bytesLess_irrefl : ∀ x : List UInt8, Op.bytesLess x x = false
  | [] => rfl
  | a :: x => by simp [Op.bytesLess, bytesLess_irrefl x]
theorem bytesLess_trans : ∀ x y z : List UInt8, Op.bytesLess x y = true → Op.bytesLess y z = true → Op.bytesLess x z = true
  | _, [], _, h, _ => by simp [Op.bytesLess] at h
  | _, _ :: _, [], _, h => by simp [Op.bytesLess] at h
  | [], _ :: _, _ :: _, _, _ => by simp [Op.bytesLess]
  | a :: x, b :: y, c :: z, h1, h2 => by
    simp only [Op.bytesLess, Bool.or_eq_true, Bool.and_eq_true, decide_eq_true_eq, beq_iff_eq] at h1 h2 ⊢
    rcases h1 with h1 | ⟨rfl, h1⟩ <;> rcases h2 with h2 | ⟨rfl, h2⟩
    · exact .inl (UInt8.lt_trans h1 h2)
    · exact .inl h1
    · exact .inl h2
    · exact .inr ⟨rfl, bytesLess_trans x y z h1 h2⟩
theorem bl_irrefl (a : ByteArray) : ¬ bl a a := by unfold bl; rw [bytesLess_irrefl]; decide
theorem bl_trans {a b c : ByteArray} (h1 : bl a b) (h2 : bl b c) : bl a c := bytesLess_trans _ _ _ h1 h2
theorem beq_path {a b : ByteArray} : (a.toList == b.toList) = true ↔ a = b := by
  rw [Lib.toList_data, Lib.toList_data, beq_iff_eq]
  exact ⟨ba_ext, fun h => by rw [h]⟩
theorem cmpS_lt (a b : ByteArray) : cmpS a b < 0 ↔ bl a b := by
  unfold cmpS bl
  by_cases h : Op.bytesLess a.toList b.toList = true
  · rw [if_pos h]; exact ⟨fun _ => h, fun _ => by decide⟩
  · rw [if_neg h]
    refine ⟨fun h2 => ?_, fun h2 => absurd h2 h⟩
    split at h2 <;> exact absurd h2 (by decide)
theorem cmpS_eq (a b : ByteArray) : cmpS a b = 0 ↔ a = b := by
  unfold cmpS
  by_cases h : Op.bytesLess a.toList b.toList = true
  · rw [if_pos h]
    refine ⟨fun h2 => absurd h2 (by decide), fun h2 => ?_⟩
    subst h2
    exact absurd h (bl_irrefl a)
  · rw [if_neg h]
    by_cases h2 : (a.toList == b.toList) = true
    · rw [if_pos h2]; exact ⟨fun _ => beq_path.1 h2, fun _ => rfl⟩
    · rw [if_neg h2]; exact ⟨fun h3 => absurd h3 (by decide), fun h3 => absurd (beq_path.2 h3) h2⟩
def ltP : List ByteArray → List ByteArray → Prop
  | _, [] => False
  | [], _ :: _ => True
  | a :: x, b :: y => bl a b ∨ (a = b ∧ ltP x y)
theorem cmpL_lt : ∀ xs ys : List ByteArray, cmpL xs ys < 0 ↔ ltP xs ys
  | [], [] => by simp [cmpL, ltP]
  | [], _ :: _ => by simp [cmpL, ltP]
  | _ :: _, [] => by simp [cmpL, ltP]
  | a :: x, b :: y => by
    rw [cmpL, ltP]
    by_cases h : cmpS a b = 0
    · rw [if_pos h, cmpL_lt x y]
      have e := (cmpS_eq a b).1 h
      subst e
      exact ⟨fun h => .inr ⟨rfl, h⟩, fun h => h.elim (fun h => absurd h (bl_irrefl a)) (fun h => h.2)⟩
    · rw [if_neg h, cmpS_lt]
      exact ⟨.inl, fun h2 => h2.elim id (fun h3 => absurd ((cmpS_eq a b).2 h3.1) h)⟩
theorem ltP_irrefl : ∀ x : List ByteArray, ¬ ltP x x
  | [], h => h
  | a :: x, h => by
    rw [ltP] at h
    exact h.elim (bl_irrefl a) (fun h => ltP_irrefl x h.2)
theorem ltP_trans : ∀ x y z : List ByteArray, ltP x y → ltP y z → ltP x z
  | x, [], _, h, _ => by cases x <;> exact False.elim h
  | _, _ :: _, [], _, h => h.elim
  | [], _ :: _, _ :: _, _, _ => trivial
  | a :: x, b :: y, c :: z, h1, h2 => by
    rw [ltP] at h1 h2 ⊢
    rcases h1 with h1 | ⟨rfl, h1⟩ <;> rcases h2 with h2 | ⟨rfl, h2⟩
    · exact .inl (bl_trans h1 h2)
    · exact .inl h1
    · exact .inl h2
    · exact .inr ⟨rfl, ltP_trans x y z h1 h2⟩
theorem ltP_between : ∀ P X Y : List ByteArray, ltP P Y → ltP Y (P ++ X) → ∃ R, Y = P ++ R
  | [], _, Y, _, _ => ⟨Y, rfl⟩
  | _ :: _, _, [], h, _ => h.elim
  | a :: P, X, b :: Y, h1, h2 => by
    rw [List.cons_append] at h2
    rw [ltP] at h1 h2
    rcases h1 with h1 | ⟨rfl, h1⟩ <;> rcases h2 with h2 | ⟨h3, h2⟩
    · exact absurd (bl_trans h1 h2) (bl_irrefl a)
    · rw [h3] at h1; exact absurd h1 (bl_irrefl a)
    · exact absurd h2 (bl_irrefl a)
    · obtain ⟨R, hR⟩ := ltP_between P X Y h1 h2
      exact ⟨R, by rw [hR]; rfl⟩
theorem less_iff (a b : ByteArray) : less a b = true ↔ ltP (parts a) (parts b) := by unfold less; rw [decide_eq_true_eq]; exact cmpL_lt _ _
theorem less_irrefl (a : ByteArray) : less a a ≠ true := fun h => ltP_irrefl _ ((less_iff a a).1 h)
theorem less_trans {a b c : ByteArray} (h1 : less a b = true) (h2 : less b c = true) : less a c = true := (less_iff _ _).2 (ltP_trans _ _ _ ((less_iff _ _).1 h1) ((less_iff _ _).1 h2))
theorem under_iff (a b : ByteArray) : under a b = true ↔ ∃ R, parts b = parts a ++ R := by
  unfold under
  rw [Bool.and_eq_true, decide_eq_true_eq, decide_eq_true_eq]
  constructor
  · rintro ⟨_, h⟩
    have e := (List.take_append_drop (parts a).length (parts b)).symm
    rw [← h] at e
    exact ⟨_, e⟩
  · rintro ⟨R, h⟩
    rw [h]
    exact ⟨by simp, by simp⟩
theorem under_refl (a : ByteArray) : under a a = true := (under_iff a a).2 ⟨[], by simp⟩
theorem under_between {p x y : ByteArray} (h1 : less p x = true) (h2 : less x y = true) (h3 : under p y = true) : under p x = true := by
  obtain ⟨R, hR⟩ := (under_iff p y).1 h3
  have e := (less_iff x y).1 h2
  rw [hR] at e
  exact (under_iff p x).2 (ltP_between _ _ _ ((less_iff p x).1 h1) e)
theorem cutL_app (u n : List UInt8) : cutL (u ++ 47 :: n) = cutL u ++ cutL n := by
  induction u with
  | nil => simp [cutL]
  | cons c t ih =>
    rw [List.cons_append]
    by_cases h : c = 47
    · subst h
      simp only [cutL, if_pos, ih, List.cons_append]
    · obtain ⟨h', r, h1, h2⟩ := cutL_head (t := t) h
      rw [h2]
      rw [h1] at ih
      simp only [cutL, if_neg h]
      rw [ih]
      rfl
theorem under_up {p : ByteArray} (h : (splitP p).2.2 = 0) (hne : (splitP p).1.data.toList ≠ []) : under (splitP p).1 p = true := by
  unfold splitP at h hne ⊢
  split at h
  · rename_i hc
    rw [if_pos hc] at hne ⊢
    split at h
    · exact absurd h (by decide)
    · rename_i hp
      rw [if_neg hp] at hne ⊢
      rcases Lib.lastIdx_spec p 47 p.size with ⟨h1, _⟩ | ⟨i, h1, h2, h3, _⟩
      · exfalso
        apply hne
        show (p.extract 0 (max (Lib.lastIndexByte p 47) 0).toNat).data.toList = []
        unfold Lib.lastIndexByte
        rw [h1, Lib.extract_data]
        rfl
      · have e : (max (Lib.lastIndexByte p 47) 0).toNat = i := by unfold Lib.lastIndexByte; rw [h2]; omega
        rw [under_iff]
        show ∃ R, parts p = parts (p.extract 0 (max (Lib.lastIndexByte p 47) 0).toNat) ++ R
        have hne : (p.extract 0 (max (Lib.lastIndexByte p 47) 0).toNat).data.toList ≠ [] := hne
        rw [e] at hne ⊢
        rw [Lib.extract_data] at hne
        have hp2 : p.data.toList = p.data.toList.take i ++ 47 :: p.data.toList.drop (i + 1) := by
          have hlt : i < p.data.toList.length := h1
          have hx : p.data.toList[i] = 47 := by
            have : (p.data[i]!).toNat = 47 := by omega
            rw [getElem!_pos p.data i h1] at this
            rw [Array.getElem_toList]
            exact UInt8.toNat_inj.1 this
          rw [← hx, ← List.drop_eq_getElem_cons hlt, List.take_append_drop]
        have hpn : p.data.toList ≠ [] := by rw [hp2]; simp
        unfold parts partsL
        rw [Lib.extract_data]
        simp only [List.drop_zero, Nat.sub_zero] at hne ⊢
        rw [if_neg hpn, if_neg hne, hp2, cutL_app, List.map_append]
        refine ⟨(cutL (p.data.toList.drop (i + 1))).map B, ?_⟩
        rw [← hp2]
  · exact absurd h (by decide)
theorem split_ne {p : ByteArray} (h : (splitP p).2.2 = 0) : p.data.toList ≠ [] := fun e => by
  unfold splitP at h
  split at h
  · rw [Lib.toList_data, if_pos e] at h; exact absurd h (by decide)
  · exact absurd h (by decide)
theorem itemOk_iff (prev : Option ByteArray) (cnt : Cnt) (x : Itm) : itemOk prev cnt x = true ↔ (splitP x.path).2.2 = 0 ∧ (∃ n, cnt (upOf x) = some n ∧ n < 1024) ∧ (∀ q, prev = some q → less q x.path = true) ∧ (x.dir && decide (0 < x.data.length)) = false ∧ x.data.length ≤ 1048576 := by
  unfold itemOk
  simp only [Bool.and_eq_true, decide_eq_true_eq, Bool.not_eq_true']
  refine and_congr Iff.rfl (and_congr ?_ (and_congr ?_ (and_congr ?_ Iff.rfl)))
  · cases cnt (upOf x) with
    | none => simp
    | some n => simp
  · cases prev with
    | none => simp
    | some q => simp
  · rw [Bool.eq_false_iff]
def Rising (its : List Itm) : Prop := its.Pairwise (fun a b => less a.path b.path = true)
theorem chk_rising : ∀ (xs : List Itm) (prev : Option ByteArray) (cnt : Cnt) (all : Nat), chkM xs prev cnt all = true → (∀ q, prev = some q → ∀ x ∈ xs, less q x.path = true) ∧ Rising xs
  | [], _, _, _, _ => ⟨fun _ _ x hx => by simp at hx, List.Pairwise.nil⟩
  | x :: xs, prev, cnt, all, h => by
    rw [chkM, Bool.and_eq_true] at h
    obtain ⟨h1, h2⟩ := h
    obtain ⟨g1, g2⟩ := chk_rising xs _ _ _ h2
    have h3 := ((itemOk_iff _ _ _).1 h1).2.2.1
    refine ⟨fun q hq y hy => ?_, List.Pairwise.cons (fun y hy => g1 _ rfl y hy) g2⟩
    rcases List.mem_cons.1 hy with rfl | hy
    · exact h3 q hq
    · exact less_trans (h3 q hq) (g1 _ rfl y hy)
theorem tree_rising {its : List Itm} (h : isTreeM its = true) : Rising its := by
  unfold isTreeM at h
  rw [Bool.and_eq_true] at h
  exact (chk_rising _ _ _ _ h.2).2
def keepAny (keep : List ByteArray) (p : ByteArray) : Bool := keep.any (fun q => under q p)
def runM (p : ByteArray) : List Itm → List Bool → Bool
  | y :: ys, k :: ks => under p y.path && (k || runM p ys ks)
  | _, _ => false
def keptM (keep : List ByteArray) : List Itm → List Bool
  | [] => []
  | x :: xs => (keepAny keep x.path || (x.dir && runM x.path xs (keptM keep xs))) :: keptM keep xs
def pick : List Itm → List Bool → List Itm
  | x :: xs, b :: bs => if b then x :: pick xs bs else pick xs bs
  | _, _ => []
def cutM (keep : List ByteArray) (its : List Itm) : List Itm := pick its (keptM keep its)
def missM (keep : List ByteArray) (its : List Itm) : List ByteArray := keep.filter (fun p => (findM p its).isNone && !p.toList.isEmpty)
theorem keptM_len (keep : List ByteArray) : ∀ its, (keptM keep its).length = its.length
  | [] => rfl
  | x :: xs => by simp [keptM, keptM_len keep xs]
theorem pick_len : ∀ (xs : List Itm) (bs : List Bool), (pick xs bs).length ≤ xs.length
  | [], _ => by simp [pick]
  | _ :: _, [] => by simp [pick]
  | x :: xs, b :: bs => by
    have := pick_len xs bs
    rw [pick]
    split
    · simp; omega
    · simp; omega
def noK (p : ByteArray) : List Itm → List Bool → Prop
  | x :: xs, k :: ks => (k = true → under p x.path = false) ∧ noK p xs ks
  | _, _ => True
theorem noK_of (p : ByteArray) : ∀ (xs : List Itm) (ks : List Bool), (∀ y ∈ xs, under p y.path = false) → noK p xs ks
  | [], _, _ => trivial
  | _ :: _, [], _ => trivial
  | x :: xs, _ :: ks, h => ⟨fun _ => h x List.mem_cons_self, noK_of p xs ks fun y hy => h y (List.mem_cons_of_mem _ hy)⟩
theorem run_no (p : ByteArray) : ∀ (xs : List Itm) (ks : List Bool), (∀ x ∈ xs, less p x.path = true) → Rising xs → runM p xs ks = false → noK p xs ks
  | [], _, _, _, _ => trivial
  | _ :: _, [], _, _, _ => trivial
  | x :: xs, k :: ks, h1, h2, h3 => by
    rw [runM] at h3
    obtain ⟨g1, g2⟩ := List.pairwise_cons.1 h2
    cases hu : under p x.path with
    | true =>
      rw [hu, Bool.true_and, Bool.or_eq_false_iff] at h3
      exact ⟨fun hk => absurd hk (by rw [h3.1]; decide), run_no p xs ks (fun y hy => h1 y (List.mem_cons_of_mem _ hy)) g2 h3.2⟩
    | false =>
      refine ⟨fun _ => hu, noK_of p xs ks fun y hy => ?_⟩
      cases hy2 : under p y.path with
      | false => rfl
      | true =>
        have := under_between (h1 x List.mem_cons_self) (g1 y hy) hy2
        rw [hu] at this
        exact absurd this (by decide)
theorem stepC_at (cnt : Cnt) (x : Itm) {n : Nat} (hn : cnt (upOf x) = some n) (k : List UInt8) :
    stepC cnt x k = if x.dir = true ∧ k = x.path.data.toList then some 0 else if k = upOf x then some (n + 1) else cnt k := by
  have hg : (cnt (upOf x)).getD 0 = n := by rw [hn]; rfl
  unfold stepC
  rw [hg]
  cases hd : x.dir with
  | false => simp [Cnt.put]
  | true => simp [Cnt.put]
theorem findM_some {p : ByteArray} : ∀ {its : List Itm} {j : Nat}, findM p its = some j → ∃ x, its[j]? = some x ∧ x.path = p
  | [], j, h => by simp [findM] at h
  | x :: xs, j, h => by
    rw [findM] at h
    split at h
    · rename_i hp
      injection h with h
      subst h
      exact ⟨x, rfl, beq_path.1 hp⟩
    · rcases hm : findM p xs with _ | i
      · rw [hm] at h; cases h
      · rw [hm] at h
        injection h with h
        subst h
        obtain ⟨y, h1, h2⟩ := findM_some hm
        exact ⟨y, by simpa using h1, h2⟩
theorem found_item : ∀ {its : List Itm} {x : Itm}, Rising its → x ∈ its → ∃ j, findM x.path its = some j ∧ its[j]? = some x
  | [], _, _, h => by simp at h
  | y :: xs, x, hr, h => by
    obtain ⟨r1, r2⟩ := List.pairwise_cons.1 hr
    rw [findM]
    rcases List.mem_cons.1 h with rfl | h
    · rw [if_pos (beq_path.2 rfl)]
      exact ⟨0, rfl, rfl⟩
    · have hne : y.path ≠ x.path := fun e => by
        have := r1 x h
        rw [e] at this
        exact less_irrefl _ this
      rw [if_neg (fun e => hne (beq_path.1 e))]
      obtain ⟨j, h1, h2⟩ := found_item r2 h
      rw [h1]
      exact ⟨j + 1, rfl, by simpa using h2⟩
end Go.Proofs.YtbpfmlckddhgbaaGreatDoor
/- tree: Find. -/
namespace Go.Proofs.YtbpfmlckddhgbaaGreatDoor
set_option linter.unusedVariables false
set_option linter.unusedSimpArgs false
open Go Go.RowKit Go.Maps Go.WideMaps Go.Proofs.YtbpfmlckddhgbaaGreatDoorW.PrintWords
def noItm : Itm := ⟨⟨#[]⟩, false, []⟩
theorem un50 : ∃ d, Tryz.prog.underlying 50 = some d ∧ d.isRow = true := by
  have h := row50
  cases hq : Tryz.prog.underlying 50 with
  | none => simp [hq] at h
  | some d => exact ⟨d, rfl, by simpa [hq] using h⟩
theorem size35 : (Tryz.prog.info? 35).map (·.size) = some 1 := by kernel_rfl
set_option maxRecDepth 4000 in
theorem find_none (w : World) (hi : Nat) (A : Option Addr) (c : Nat) (its : List Itm) (p : ByteArray) (hI : RdI w hi A its) (hhi : hi ≤ w.heap.size) (hlen : its.length < 1048576) (hf : findM p its = none) :
    Calls Tryz.prog 40 #[.slice A its.length c, .string p] w fun e w' => e = .returned (.tuple #[.agg (icells noItm none 0).toArray, .bool false]) ∧ Below w.heap.size w w' := by
  have HI := Aside0.mk hI
  have HH := Aside0.mk hhi
  have FZ := Aside0.mk (show findFrom p its 0 = -1 by unfold findFrom; rw [hf])
  obtain ⟨d50, hu50, hd50⟩ := un50
  have U50 := Aside0.mk (And.intro hu50 hd50)
  clear hI hhi hf hu50 hd50
  go_enter Tryz.func40, Tryz.ntmps40
  go_wp2_with (first
    | (refine arm_alloc rfl 50 rfl _ _ info50 ?_; intro W4 b4 hb hW
       have hN : At W4 b4 50 (icells noItm none 0) := by subst hW hb; exact At.new _ _ _
       have hP : At W4 w.heap.size 9 [.string p] := by subst hW; exact (At.new w 9 #[.string p]).alloc _
       have hB : Below w.heap.size w W4 := by subst hW; exact ((Below.refl _ _).alloc (Nat.le_refl _) _).alloc (by rw [World.size_alloc]; omega) _
       have L4 := Aside0.mk (show w.heap.size < b4 by rw [hb, World.size_alloc]; omega)
       have N4 := Aside0.mk hN
       have P4 := Aside0.mk hP
       have B4 := Aside0.mk hB
       clear hb hW hN hP hB)
    | (go_at_call 93
       refine (indexFunc_calls W4 hi A c w.heap.size p its (HI.out.only (Only.of_below (S := fun _ => False) B4.out) HH.out (fun _ h => h.elim)) (Nat.le_trans HH.out B4.out.size) P4.out hlen).mono ?_
       rintro e w5 ⟨rfl, hB⟩
       rw [FZ.out]
       have N5 := Aside0.mk (N4.out.below hB N4.out.lt)
       have B5 := Aside0.mk (B4.out.trans (hB.mono B4.out.size))
       clear hB)
    | (refine arm_store_row rfl 50 _ _ rfl b4 50 _ (icells noItm none 0) rfl rfl N5.out rfl size50 (one_icells _ _ _) ?_
       intro W6 hW
       have N6 := Aside0.mk (show At W6 b4 50 (icells noItm none 0) by subst hW; exact N5.out.setRow _)
       have B6 := Aside0.mk (show Below w.heap.size w W6 by
         have hO : Only (· = b4) w5.heap.size w5 W6 := by subst hW; exact Only.setRow (S := (· = b4)) (Only.refl _ _ _) (.inl rfl) _
         exact B5.out.trans (hO.to_below B5.out.size (fun b hb => by have e : b = b4 := hb; have := L4.out; omega)))
       clear hW)
    | fail)
  refine bodyPost_ret (results_cell_tmp rfl _ _ b4 50 _ _ rfl N6.out U50.out.1 U50.out.2 size50) rfl ?_
  exact ⟨rfl, B6.out⟩
set_option maxRecDepth 4000 in
set_option maxHeartbeats 400000 in
theorem find_some (w : World) (hi : Nat) (A : Option Addr) (c : Nat) (its : List Itm) (p : ByteArray) (j : Nat) (x : Itm) (hI : RdI w hi A its) (hhi : hi ≤ w.heap.size) (hlen : its.length < 1048576) (hdl : ∀ x ∈ its, x.data.length ≤ 1099511627776) (hf : findM p its = some j) (hx : its[j]? = some x) :
    Calls Tryz.prog 40 #[.slice A its.length c, .string p] w fun e w' => ∃ A' c', e = .returned (.tuple #[.agg (icells x A' c').toArray, .bool true]) ∧ RdL w' A' x.data ∧ Below w.heap.size w w' := by
  have HI := Aside0.mk hI
  have HH := Aside0.mk hhi
  have FZ := Aside0.mk (show findFrom p its 0 = ((0 + j : Nat) : Int) by unfold findFrom; rw [hf])
  have hj : j < its.length := (List.getElem?_eq_some_iff.1 hx).1
  have HX := Aside0.mk hx
  have DX := Aside0.mk (hdl x (List.mem_of_getElem? hx))
  obtain ⟨d50, hu50, hd50⟩ := un50
  have U50 := Aside0.mk (And.intro hu50 hd50)
  obtain ⟨g0, o0, hA, _, _⟩ := hI (by intro h; rw [h] at hj; simp at hj)
  subst hA
  clear hI hhi hf hu50 hd50 hx hdl
  go_enter Tryz.func40, Tryz.ntmps40
  go_wp2_with (first
    | (have M := MK8.out
       refine arm_load_row rfl 50 _ rfl b7 0 rfl (icells x A' c') N8.out.rangeAll row50 size50 ?_
       intro v22 hv
       have V22 := Aside0.mk hv
       clear hv)
    | (have M := MK8.out
       refine arm_store_row rfl 50 _ _ rfl b4 50 _ (icells x A' c') rfl V22.out N4.out rfl size50 (one_icells _ _ _) ?_
       intro W9 hW
       have N9 := Aside0.mk (show At W9 b4 50 (icells x A' c') by subst hW; exact N4.out.setRow _)
       have hO : Only (· = b4) W8.heap.size W8 W9 := by subst hW; exact Only.setRow (S := (· = b4)) (Only.refl _ _ _) (.inl rfl) _
       have l4 := L4.out
       have l8 := R8.out
       have R9 := Aside0.mk (show RdL W9 A' x.data from fun hne => by
         obtain ⟨ad, q1, q2, q3, q4⟩ := l8 hne
         have l7b := L7b.out
         exact ⟨ad, q1, Nat.lt_of_lt_of_le q3 hO.size, fun k hk => by rw [hO.cell (by rw [add_block]; exact q3) (by rw [add_block]; intro e; have e : ad.block = b4 := e; omega)]; exact q4 k hk⟩)
       have B9 := Aside0.mk (B8.out.trans (hO.to_below B8.out.size (fun b hb => by have e : b = b4 := hb; omega)))
       clear hW hO l4 l8)
    | (refine arm_alloc rfl 50 rfl _ _ info50 ?_; intro W4 b4 hb hW
       have hN : At W4 b4 50 (icells noItm none 0) := by subst hW hb; exact At.new _ _ _
       have hP : At W4 w.heap.size 9 [.string p] := by subst hW; exact (At.new w 9 #[.string p]).alloc _
       have hB : Below w.heap.size w W4 := by subst hW; exact ((Below.refl _ _).alloc (Nat.le_refl _) _).alloc (by rw [World.size_alloc]; omega) _
       have L4 := Aside0.mk (show w.heap.size < b4 ∧ b4 < W4.heap.size from ⟨by rw [hb, World.size_alloc]; omega, hN.lt⟩)
       have N4 := Aside0.mk hN
       have P4 := Aside0.mk hP
       have B4 := Aside0.mk hB
       clear hb hW hN hP hB)
    | (go_at_call 93
       refine (indexFunc_calls W4 hi (some ⟨g0, o0, none⟩) c w.heap.size p its (HI.out.only (Only.of_below (S := fun _ => False) B4.out) HH.out (fun _ h => h.elim)) (Nat.le_trans HH.out B4.out.size) P4.out hlen).mono ?_
       rintro e w5 ⟨rfl, hB⟩
       rw [FZ.out, Nat.zero_add]
       have N4 := Aside0.mk (N4.out.below hB N4.out.lt)
       have L5 := Aside0.mk hB.size
       have B5 := Aside0.mk (B4.out.trans (hB.mono B4.out.size))
       have I5 := Aside0.mk (HI.out.only (Only.of_below (S := fun _ => False) B5.out) HH.out (fun _ h => h.elim))
       obtain ⟨g1, o1, hA1, _, hits⟩ := I5.out (by intro h; rw [h] at hj; simp at hj)
       injection hA1 with hA1
       injection hA1 with e1 e2 _
       subst e1 e2
       obtain ⟨A0, c0, r0, _, u0⟩ := hits j x HX.out
       have ROW := Aside0.mk r0
       have RD0 := Aside0.mk (show RdL w5 A0 x.data from fun hne => by obtain ⟨ad, a1, a2, a3⟩ := u0 hne; exact ⟨ad, a1, by have := HH.out; have := B5.out.size; omega, a3⟩)
       have tneg : decide ((j : Int) < 0) = false := decide_eq_false (by omega)
       clear hB hits r0 u0)
    | (refine arm_load_row rfl 50 _ rfl g0 (o0 + j * 3) rfl (icells x A0 c0) ROW.out row50 size50 ?_
       intro v17 hv
       have V17 := Aside0.mk hv
       clear hv)
    | (refine arm_alloc rfl 50 rfl _ _ info50 ?_; intro W7 b7 hb hW
       have G := V17.out
       have hB : Below w5.heap.size w5 W7 := by subst hW; exact (Below.refl _ _).alloc (Nat.le_refl _) _
       have N7 := Aside0.mk (show At W7 b7 50 (icells noItm none 0) by subst hW hb; exact At.new _ _ _)
       have N4 := Aside0.mk (N4.out.below hB N4.out.lt)
       have L7 := Aside0.mk (show b7 = w5.heap.size ∧ w5.heap.size < W7.heap.size from ⟨hb, by rw [← hb]; exact N7.out.lt⟩)
       have B57 := Aside0.mk hB
       clear hb hW hB G)
    | (refine arm_store_row rfl 50 _ _ rfl b7 50 _ (icells x A0 c0) rfl V17.out N7.out rfl size50 (one_icells _ _ _) ?_
       intro W7b hW
       have hO : Only (· = b7) W7.heap.size W7 W7b := by subst hW; exact Only.setRow (S := (· = b7)) (Only.refl _ _ _) (.inl rfl) _
       have l7 := L7.out
       have l4 := L4.out
       have l5 := L5.out
       have hB := B57.out.trans (hO.to_below B57.out.size (fun b hb => by have e : b = b7 := hb; omega))
       have N7b := Aside0.mk (show At W7b b7 50 (icells x A0 c0) by subst hW; exact N7.out.setRow _)
       have k2 : W7b.cell? ⟨b7, 2, none⟩ = some (.slice A0 x.data.length c0) := by rw [N7b.out.cell]; rfl
       have N4 := Aside0.mk (hO.at_ N4.out.lt (by omega) N4.out)
       have RD1 := Aside0.mk (RD0.out.below hB)
       have B7b := Aside0.mk (B5.out.trans (hB.mono B5.out.size))
       have L7b := Aside0.mk (show b7 < W7b.heap.size ∧ b4 < W7b.heap.size from ⟨N7b.out.lt, N4.out.lt⟩)
       clear hW hO l7 l4 l5 hB)
    | (go_at_call 71
       refine (clone_calls W7b A0 c0 x.data RD1.out (by have := DX.out; omega)).mono ?_
       rintro e w8 ⟨v', rfl, hO, hF, hB⟩
       obtain ⟨A', c', hv', hc', hr', hq'⟩ := hO.rdl
       subst hv'
       have N4 := Aside0.mk (N4.out.below hB N4.out.lt)
       have N7c := Aside0.mk (N7b.out.below hB N7b.out.lt)
       have R8 := Aside0.mk (show x.data ≠ [] → ∃ ad, A' = some ad ∧ W7b.heap.size ≤ ad.block ∧ ad.block < w8.heap.size ∧ ∀ k, k < x.data.length → w8.cell? (ad.add k) = some (bv (x.data.getD k 0)) from fun hne => by
         obtain ⟨ad, q1, q2, q3⟩ := hr' hne
         obtain ⟨ad2, q4, q5⟩ := hq' hne
         rw [q1] at q4
         injection q4 with q4
         subst q4
         exact ⟨ad, q1, hF _ q5, q2, q3⟩)
       have B8 := Aside0.mk (B7b.out.trans (hB.mono B7b.out.size))
       have k2 : w8.cell? ⟨b7, 2, none⟩ = some (.slice A0 x.data.length c0) := by rw [N7c.out.cell]; rfl
       have f2 : w8.frozen? ⟨b7, 2, none⟩ = false := N7c.out.frozen 2
       clear hO hF hB hr' hq' hc')
    | (have G := N7c.out
       refine arm_store1 rfl 35 _ _ rfl ⟨b7, 2, none⟩ rfl (.slice A' x.data.length c') rfl _ k2 f2 size35 rfl rfl ?_
       intro W8 hW
       have l4 := L4.out
       have l7 := L7.out
       have l5 := L5.out
       have l7b := L7b.out
       have hO : Only (· = b7) w8.heap.size w8 W8 := by subst hW; exact Only.setCell (S := (· = b7)) (Only.refl _ _ _) (.inl rfl) _
       have N8 := Aside0.mk (show At W8 b7 50 (icells x A' c') by subst hW; exact N7c.out.setCell 2 _)
       have N4 := Aside0.mk (hO.at_ N4.out.lt (by omega) N4.out)
       have R8 := Aside0.mk (show x.data ≠ [] → ∃ ad, A' = some ad ∧ W7b.heap.size ≤ ad.block ∧ ad.block < W8.heap.size ∧ ∀ k, k < x.data.length → W8.cell? (ad.add k) = some (bv (x.data.getD k 0)) from fun hne => by
         obtain ⟨ad, q1, q2, q3, q4⟩ := R8.out hne
         exact ⟨ad, q1, q2, Nat.lt_of_lt_of_le q3 hO.size, fun k hk => by rw [hO.cell (by rw [add_block]; exact q3) (by rw [add_block]; intro e; have e : ad.block = b7 := e; omega)]; exact q4 k hk⟩)
       have B8 := Aside0.mk (B8.out.trans (hO.to_below B8.out.size (fun b hb => by have e : b = b7 := hb; have := B5.out.size; omega)))
       have MK8 := Aside0.mk True.intro
       clear hW hO l4 l7 l5 l7b k2 f2 G)
    | fail)
  refine bodyPost_ret (results_cell_tmp rfl _ _ b4 50 _ _ rfl N9.out U50.out.1 U50.out.2 size50) rfl ?_
  exact ⟨A', c', rfl, R9.out, B9.out⟩
end Go.Proofs.YtbpfmlckddhgbaaGreatDoor
/- the law's same: two rows of texts. -/
namespace Go.Proofs.YtbpfmlckddhgbaaGreatDoor
set_option linter.unusedVariables false
set_option linter.unusedSimpArgs false
open Go Go.RowKit Go.Maps Go.WideMaps Go.Proofs.YtbpfmlckddhgbaaGreatDoorW.PrintWords Go.Proofs.YtbpfmlckddhgbaaGreatDoorW.PrintLast
def sameT : List ByteArray → List ByteArray → Bool
  | [], [] => true
  | x :: xs, y :: ys => (x.toList == y.toList) && sameT xs ys
  | _, _ => false
theorem sameT_len : ∀ (xs ys : List ByteArray), xs.length ≠ ys.length → sameT xs ys = false
  | [], [], h => absurd rfl h
  | [], _ :: _, _ => rfl
  | _ :: _, [], _ => rfl
  | x :: xs, y :: ys, h => by rw [sameT, sameT_len xs ys (by simpa using h), Bool.and_false]
theorem sameT_refl : ∀ xs : List ByteArray, sameT xs xs = true
  | [] => rfl
  | x :: xs => by rw [sameT, sameT_refl xs, Bool.and_true, beq_self_eq_true]
set_option maxRecDepth 4000 in
theorem sameT_calls (w : World) (hi : Nat) (A1 A2 : Option Addr) (c1 c2 : Nat) (xs ys : List ByteArray) (h1 : RdS w hi A1 xs) (h2 : RdS w hi A2 ys) (hhi : hi ≤ w.heap.size) (hl : xs.length < 1099511627776 ∧ ys.length < 1099511627776) :
    Calls Tryz.prog 37 #[.slice A1 xs.length c1, .slice A2 ys.length c2] w fun e w' => e = .returned (.bool (sameT xs ys)) ∧ Below w.heap.size w w' := by
  obtain ⟨hl1, hl2⟩ := hl
  by_cases hne : xs.length = ys.length
  · obtain ⟨R, hR⟩ : ∃ R, R = sameT xs ys := ⟨_, rfl⟩
    rw [← hR]
    have RR := Aside0.mk (show R = sameT (xs.drop 0) (ys.drop 0) from hR)
    have H1 := Aside0.mk h1
    have H2 := Aside0.mk h2
    have HH := Aside0.mk hhi
    obtain ⟨n, hn⟩ : ∃ n, n = xs.length := ⟨_, rfl⟩
    have NN := Aside0.mk (show xs.length = n ∧ ys.length = n from ⟨hn.symm, hne.symm.trans hn.symm⟩)
    have hl3 : n < 1099511627776 := by omega
    rw [← hn, show ys.length = n from hne.symm.trans hn.symm]
    clear h1 h2 hhi hR hne hn hl1 hl2
    go_enter Tryz.func37, Tryz.ntmps37
    go_wp2_with fail
    go_loopg [5] n (fun g i wr => ∃ k : Nat, Aside0 (k + g = n) ∧ i = .int .i64 k ∧ Aside0 (R = sameT (xs.drop k) (ys.drop k)) ∧ Aside0 (Below w.heap.size w wr))
    case atStart => exact ⟨0, ⟨by omega⟩, rfl, RR, ⟨Below.refl _ _⟩⟩
    case round =>
      obtain ⟨k, HJ, rfl, HR, HB⟩ := hrel
      by_cases hlt : k < n
      · have hx0 : k < xs.length := by have := NN.out; omega
        have hy0 : k < ys.length := by have := NN.out; omega
        obtain ⟨x, hx⟩ : ∃ x, xs[k]? = some x := ⟨_, List.getElem?_eq_getElem hx0⟩
        obtain ⟨y, hy⟩ : ∃ y, ys[k]? = some y := ⟨_, List.getElem?_eq_getElem hy0⟩
        have hr := HR.out
        rw [List.drop_eq_getElem_cons hx0, (List.getElem?_eq_some_iff.1 hx).2, List.drop_eq_getElem_cons hy0, (List.getElem?_eq_some_iff.1 hy).2, sameT] at hr
        obtain ⟨g1, o1, hA1, _, q1⟩ := (H1.out.below HB.out HH.out) (by intro h; rw [h] at hx0; simp at hx0)
        obtain ⟨g2, o2, hA2, _, q2⟩ := (H2.out.below HB.out HH.out) (by intro h; rw [h] at hy0; simp at hy0)
        subst hA1 hA2
        have ka : wr.cell? ⟨g1, o1 + k, none⟩ = some (.string x) := q1 k x hx
        have kb : wr.cell? ⟨g2, o2 + k, none⟩ = some (.string y) := q2 k y hy
        clear q1 q2 hx hy hx0 hy0
        rcases hpp : (x.toList == y.toList) with _ | _
        · have HRR := Aside0.mk (show R = false by rw [hr, hpp]; rfl)
          clear hr
          go_wp2_with fail
          go_quiet (fail)
          go_wp2_with fail
          go_ret
          exact ⟨by rw [HRR.out]; rfl, HB.out.trans (show Below w.heap.size wr _ from ⟨rfl, rfl, rfl, Nat.le_refl _, fun _ _ => rfl⟩)⟩
        · have HRR := Aside0.mk (show R = sameT (xs.drop (k + 1)) (ys.drop (k + 1)) by rw [hr, hpp]; rfl)
          clear hr
          go_wp2_with fail
          go_quiet (fail)
          go_wp2_with fail
          go_roundg (n - (k + 1))
          case measure => have := HJ.out; omega
          case rel => exact ⟨k + 1, ⟨by have := HJ.out; omega⟩, by go_num, HRR, ⟨HB.out.trans (show Below w.heap.size wr _ from ⟨rfl, rfl, rfl, Nat.le_refl _, fun _ _ => rfl⟩)⟩⟩
      · obtain rfl : k = n := by have := HJ.out; omega
        have hr := HR.out
        rw [show xs.drop k = [] from List.drop_eq_nil_of_le (by have := NN.out; omega), show ys.drop k = [] from List.drop_eq_nil_of_le (by have := NN.out; omega)] at hr
        have HRR := Aside0.mk (show R = true from hr)
        clear hr
        go_wp2_with fail
        go_ret
        exact ⟨by rw [HRR.out]; rfl, HB.out⟩
  · rw [sameT_len xs ys hne]
    have t1 : (((xs.length : Nat) : Int) == ((ys.length : Nat) : Int)) = false := beq_eq_false_iff_ne.2 (by omega)
    go_enter Tryz.func37, Tryz.ntmps37
    go_wp2_with fail
    go_ret
    exact ⟨rfl, Below.refl _ _⟩
end Go.Proofs.YtbpfmlckddhgbaaGreatDoor
/- tree: what Cut's loops keep. -/
namespace Go.Proofs.YtbpfmlckddhgbaaGreatDoor
set_option linter.unusedVariables false
open Go Go.RowKit Go.Maps Go.WideMaps
theorem chk_paths : ∀ (xs : List Itm) (prev : Option ByteArray) (cnt : Cnt) (all : Nat), chkM xs prev cnt all = true → ∀ x ∈ xs, x.path.size ≤ 4096 ∧ x.data.length ≤ 1048576 ∧ x.path.data.toList ≠ []
  | [], _, _, _, _, x, hx => by simp at hx
  | y :: xs, prev, cnt, all, h, x, hx => by
    rw [chkM, Bool.and_eq_true] at h
    rcases List.mem_cons.1 hx with rfl | hx
    · have e := (itemOk_iff _ _ _).1 h.1
      exact ⟨splitP_clean e.1, e.2.2.2.2, split_ne e.1⟩
    · exact chk_paths xs _ _ _ h.2 x hx
theorem tree_paths {its : List Itm} (h : isTreeM its = true) : its.length < 65536 ∧ ∀ x ∈ its, x.path.size ≤ 4096 ∧ x.data.length ≤ 1048576 ∧ x.path.data.toList ≠ [] := by
  unfold isTreeM at h
  rw [Bool.and_eq_true, decide_eq_true_eq] at h
  exact ⟨h.1, chk_paths _ _ _ _ h.2⟩
theorem keepOk_paths : ∀ (ps : List ByteArray) (prev : Option ByteArray), keepOk prev ps = true → ∀ p ∈ ps, p.size ≤ 4096
  | [], _, _, p, hp => by simp at hp
  | q :: ps, prev, h, p, hp => by
    rw [keepOk_cons, Bool.and_eq_true, Bool.and_eq_true] at h
    rcases List.mem_cons.1 hp with rfl | hp
    · exact isClean_size h.1
    · exact keepOk_paths ps _ h.2.2 p hp
theorem keep_paths {keep : List ByteArray} (h : isKeepM keep = true) : keep.length ≤ 64 ∧ ∀ p ∈ keep, p.size ≤ 4096 := by
  unfold isKeepM at h
  rw [Bool.and_eq_true, decide_eq_true_eq] at h
  exact ⟨h.1, keepOk_paths _ _ h.2⟩
def marks (keep : List ByteArray) (its : List Itm) (r : Nat) : List Bool := List.replicate r false ++ keptM keep (its.drop r)
theorem marks_end (keep : List ByteArray) (its : List Itm) : marks keep its its.length = List.replicate its.length false := by unfold marks; rw [List.drop_length]; simp [keptM]
theorem marks_zero (keep : List ByteArray) (its : List Itm) : marks keep its 0 = keptM keep its := by unfold marks; simp
def keptAt (keep : List ByteArray) (its : List Itm) (i : Nat) (x : Itm) : Bool := keepAny keep x.path || (x.dir && runM x.path (its.drop (i + 1)) (keptM keep (its.drop (i + 1))))
theorem kept_drop (keep : List ByteArray) {its : List Itm} {i : Nat} {x : Itm} (hx : its[i]? = some x) : keptM keep (its.drop i) = keptAt keep its i x :: keptM keep (its.drop (i + 1)) := by
  obtain ⟨hlt, he⟩ := List.getElem?_eq_some_iff.1 hx
  rw [List.drop_eq_getElem_cons hlt, he, keptM]
  rfl
theorem marks_same (keep : List ByteArray) {its : List Itm} {i : Nat} {x : Itm} (hx : its[i]? = some x) (h : keptAt keep its i x = false) : marks keep its (i + 1) = marks keep its i := by
  unfold marks
  rw [kept_drop keep hx, h, List.replicate_succ']
  simp
theorem marks_set (keep : List ByteArray) {its : List Itm} {i : Nat} {x : Itm} (hx : its[i]? = some x) (h : keptAt keep its i x = true) : (marks keep its (i + 1)).set i true = marks keep its i := by
  unfold marks
  rw [kept_drop keep hx, h, List.replicate_succ', List.append_assoc, List.set_append_right _ _ (by simp)]
  simp
theorem marks_at (keep : List ByteArray) (its : List Itm) {r k : Nat} (h : r ≤ k) : (marks keep its r)[k]? = (keptM keep (its.drop r))[k - r]? := by
  unfold marks
  rw [List.getElem?_append_right (by simpa using h)]
  simp
theorem marks_low (keep : List ByteArray) (its : List Itm) {r k : Nat} (h : k < r) : (marks keep its r)[k]? = some false := by
  unfold marks
  rw [List.getElem?_append_left (by simpa using h), List.getElem?_replicate, if_pos h]
theorem kept_at (keep : List ByteArray) : ∀ (its : List Itm) (k : Nat), (keptM keep its).drop k = keptM keep (its.drop k)
  | [], k => by simp [keptM]
  | x :: xs, 0 => rfl
  | x :: xs, k + 1 => by rw [keptM, List.drop_succ_cons, List.drop_succ_cons, kept_at keep xs k]
theorem marks_look (keep : List ByteArray) {its : List Itm} {r k : Nat} (h : r ≤ k) {y : Itm} (hy : its[k]? = some y) : (marks keep its r)[k]? = some (keptAt keep its k y) := by
  rw [marks_at keep its h]
  have e := kept_at keep (its.drop r) (k - r)
  rw [List.drop_drop, show r + (k - r) = k by omega, kept_drop keep hy] at e
  have e2 : ((keptM keep (its.drop r)).drop (k - r))[0]? = some (keptAt keep its k y) := by rw [e]; rfl
  rw [List.getElem?_drop, Nat.add_zero] at e2
  exact e2
theorem run_cons (keep : List ByteArray) (p : ByteArray) {its : List Itm} {k : Nat} {y : Itm} (hy : its[k]? = some y) :
    runM p (its.drop k) (keptM keep (its.drop k)) = (under p y.path && (keptAt keep its k y || runM p (its.drop (k + 1)) (keptM keep (its.drop (k + 1))))) := by
  rw [kept_drop keep hy]
  obtain ⟨hlt, he⟩ := List.getElem?_eq_some_iff.1 hy
  rw [List.drop_eq_getElem_cons hlt, he, runM]
theorem pick_snoc : ∀ (xs : List Itm) (ks : List Bool) (k : Nat) (x : Itm) (b : Bool), xs[k]? = some x → ks[k]? = some b → pick (xs.take (k + 1)) ks = pick (xs.take k) ks ++ (if b then [x] else [])
  | [], _, k, x, b, h, _ => by simp at h
  | _ :: _, [], k, x, b, _, h => by simp at h
  | y :: xs, c :: ks, 0, x, b, h1, h2 => by
    simp at h1 h2
    subst h1 h2
    simp [pick]
  | y :: xs, c :: ks, k + 1, x, b, h1, h2 => by
    have e := pick_snoc xs ks k x b (by simpa using h1) (by simpa using h2)
    rw [List.take_succ_cons, List.take_succ_cons, pick, pick, e]
    split <;> simp
theorem miss_snoc (its : List Itm) {keep : List ByteArray} {k : Nat} {p : ByteArray} (h : keep[k]? = some p) : missM (keep.take (k + 1)) its = missM (keep.take k) its ++ (if ((findM p its).isNone && !p.toList.isEmpty) = true then [p] else []) := by
  unfold missM
  rw [List.take_add_one, h, List.filter_append]
  simp [List.filter_cons]
def ixV : Nat → Value
  | 0 => .int .i64 (-1)
  | i + 1 => .int .i64 (i : Int)
theorem ixV_eq (n : Nat) : ixV n = .int .i64 ((n : Int) - 1) := by
  cases n with
  | zero => rfl
  | succ i => show Value.int .i64 (i : Int) = _; congr 1; omega
theorem info50c : (Tryz.prog.info? 50).map (fun i => (i.zero, i.size, i.bytes)) = some (some (.agg #[.string ⟨#[]⟩, .bool false, .slice none 0 0]), 3, 48) := by kernel_rfl
theorem info9s : (Tryz.prog.info? 9).map (fun i => (i.zero, i.size)) = some (some (.string ⟨#[]⟩), 1) := by kernel_rfl
theorem info4 : (Tryz.prog.info? 4).map (fun i => (i.zero, i.size, i.bytes)) = some (some (.bool false), 1, 1) := by kernel_rfl
theorem size4 : (Tryz.prog.info? 4).map (·.size) = some 1 := by kernel_rfl
theorem tu154 : Tryz.prog.underlying 154 = some (.slice 4) := by kernel_rfl
theorem RdS.lt {w : World} {hi : Nat} {A : Option Addr} {ps : List ByteArray} (h : RdS w hi A ps) {hi' : Nat} (hh : hi ≤ hi') : RdS w hi' A ps := fun hne => by
  obtain ⟨g, o, h1, h2, h3⟩ := h hne
  exact ⟨g, o, h1, by omega, h3⟩
structure CutSt (w wr : World) (hi : Nat) (A B : Option Addr) (its : List Itm) (keep : List ByteArray) (bk : Nat) (bs : List Bool) : Prop where
  kept : At wr bk 4 (bs.map Value.bool)
  below : Below w.heap.size w wr
  own : w.heap.size ≤ bk
  items : RdI wr hi A its
  keeps : RdS wr hi B keep
  glob : Glob wr
  hi_ : hi ≤ w.heap.size
  gl : 0 < w.heap.size
namespace CutSt
variable {w wr w1 : World} {hi : Nat} {A B : Option Addr} {its : List Itm} {keep : List ByteArray} {bk : Nat} {bs : List Bool}
theorem step (h : CutSt w wr hi A B its keep bk bs) (hb : Below wr.heap.size wr w1) : CutSt w w1 hi A B its keep bk bs :=
  ⟨h.kept.below hb h.kept.lt, h.below.trans (hb.mono h.below.size), h.own, h.items.only (Only.of_below (S := fun _ => False) hb) (Nat.le_trans h.hi_ h.below.size) (fun _ h => h.elim), h.keeps.below hb (Nat.le_trans h.hi_ h.below.size), h.glob.below hb, h.hi_, h.gl⟩
theorem write {S : Nat → Prop} (h : CutSt w wr hi A B its keep bk bs) (ho : Only S wr.heap.size wr w1) (hS : ∀ b, S b → w.heap.size ≤ b ∧ b ≠ bk) : CutSt w w1 hi A B its keep bk bs := by
  have h1 := h.hi_
  refine ⟨ho.at_ h.kept.lt (fun hs => (hS _ hs).2 rfl) h.kept, h.below.trans (ho.to_below h.below.size (fun b hb => (hS b hb).1)), h.own, h.items.only ho (Nat.le_trans h1 h.below.size) (fun b hb => Nat.le_trans h1 (hS b hb).1), fun hne => ?_, WSt.globOnly h.glob ho (fun hs => by have := (hS 0 hs).1; have := h.gl; omega), h1, h.gl⟩
  obtain ⟨g, o, g1, g2, g3⟩ := h.keeps hne
  exact ⟨g, o, g1, g2, fun j p hp => by rw [ho.cell (a := ⟨g, o + j, none⟩) (by show g < _; have := h.below.size; omega) (fun hs => by have := (hS g hs).1; omega)]; exact g3 j p hp⟩
theorem mark (h : CutSt w wr hi A B its keep bk bs) (i : Nat) : CutSt w (wr.setCell ⟨bk, i, none⟩ (.bool true)) hi A B its keep bk (bs.set i true) := by
  have ho : Only (· = bk) wr.heap.size wr (wr.setCell ⟨bk, i, none⟩ (.bool true)) := Only.setCell (S := (· = bk)) (a := ⟨bk, i, none⟩) (Only.refl _ _ _) (.inl rfl) _
  have h1 := h.hi_
  have h2 := h.own
  refine ⟨by rw [List.map_set]; exact h.kept.setCell i _, h.below.trans (ho.to_below h.below.size (fun b hb => by have e : b = bk := hb; omega)), h.own, h.items.only ho (Nat.le_trans h1 h.below.size) (fun b hb => by have e : b = bk := hb; omega), fun hne => ?_, WSt.globOnly h.glob ho (fun hs => by have e : 0 = bk := hs; have := h.gl; omega), h1, h.gl⟩
  obtain ⟨g, o, g1, g2, g3⟩ := h.keeps hne
  exact ⟨g, o, g1, g2, fun j p hp => by rw [ho.cell (a := ⟨g, o + j, none⟩) (by show g < _; have := h.below.size; omega) (fun hs => by have e : g = bk := hs; omega)]; exact g3 j p hp⟩
end CutSt
end Go.Proofs.YtbpfmlckddhgbaaGreatDoor
/- tree: Cut. -/
namespace Go.Proofs.YtbpfmlckddhgbaaGreatDoor
set_option linter.unusedVariables false
set_option linter.unusedSimpArgs false
open Go Go.RowKit Go.Maps Go.WideMaps Go.Proofs.YtbpfmlckddhgbaaGreatDoorW.PrintWords Go.Proofs.YtbpfmlckddhgbaaGreatDoorW.PrintLast
set_option maxRecDepth 8000 in
theorem cut_bad (w : World) (hi : Nat) (A B : Option Addr) (c c' : Nat) (its : List Itm) (keep : List ByteArray) (hI : RdI w hi A its) (hhi : hi ≤ w.heap.size) (hG : Glob w) (hdl : ∀ x ∈ its, x.data.length ≤ 1099511627776) (hlen : its.length ≤ 1099511627776) (hT : isTreeM its = false) :
    Calls Tryz.prog 35 #[.slice A its.length c, .slice B keep.length c'] w fun e w' => e = .returned (.tuple #[.slice none 0 0, .slice none 0 0, .int .i64 64]) ∧ Below w.heap.size w w' := by
  have hc := check_calls w hi A c its hI hhi hG hdl hlen
  rw [hT, if_neg (by decide)] at hc
  have HC := Aside0.mk hc
  clear hc hI hhi hG hdl hlen hT
  go_enter Tryz.func35, Tryz.ntmps35
  go_wp2_with fail
  go_step3
  go_wp2_with (first
    | (go_at_call 33
       refine HC.out.mono ?_
       rintro e w1 ⟨rfl, hB⟩
       have B1 := Aside0.mk hB
       clear hB)
    | fail)
  try rw [Exit.noGoto_ret]
  go_ret3
  exact ⟨rfl, B1.out⟩
set_option maxRecDepth 8000 in
theorem cut_bad2 (w : World) (hi : Nat) (A B : Option Addr) (c c' : Nat) (its : List Itm) (keep : List ByteArray) (hI : RdI w hi A its) (hS : RdS w hi B keep) (hhi : hi ≤ w.heap.size) (hG : Glob w) (hT : isTreeM its = true) (hK : isKeepM keep = false) (hkl : keep.length ≤ 1099511627776) :
    Calls Tryz.prog 35 #[.slice A its.length c, .slice B keep.length c'] w fun e w' => e = .returned (.tuple #[.slice none 0 0, .slice none 0 0, .int .i64 65]) ∧ Below w.heap.size w w' := by
  have ht := tree_paths hT
  have hc := check_calls w hi A c its hI hhi hG (fun x hx => by have := (ht.2 x hx).2.1; omega) (by omega)
  rw [hT, if_pos rfl] at hc
  have HC := Aside0.mk hc
  have HS := Aside0.mk (And.intro hS (And.intro hhi hG))
  have HK := Aside0.mk hK
  clear hc hI hhi hG ht hT hS hK
  go_enter Tryz.func35, Tryz.ntmps35
  go_wp2_with fail
  go_step3
  go_wp2_with (first
    | (go_at_call 33
       refine HC.out.mono ?_
       rintro e w1 ⟨rfl, hB⟩
       have B1 := Aside0.mk hB
       clear hB)
    | (go_at_call 39
       have hcall := checkKeep_calls w1 hi B c' keep (HS.out.1.below B1.out HS.out.2.1) (Nat.le_trans HS.out.2.1 B1.out.size) (HS.out.2.2.below B1.out) hkl
       rw [HK.out, if_neg (by decide)] at hcall
       refine hcall.mono ?_
       rintro e w2 ⟨rfl, hB⟩
       have B2 := Aside0.mk (B1.out.trans (hB.mono B1.out.size))
       clear hB hcall)
    | fail)
  try rw [Exit.noGoto_ret]
  go_ret3
  exact ⟨rfl, B2.out⟩
set_option maxRecDepth 100000 in
set_option maxHeartbeats 8000000 in
theorem cut_ok (w : World) (hi : Nat) (A B : Option Addr) (c c' : Nat) (its : List Itm) (keep : List ByteArray) (hI : RdI w hi A its) (hS : RdS w hi B keep) (hhi : hi ≤ w.heap.size) (hG : Glob w) (hT : isTreeM its = true) (hK : isKeepM keep = true) :
    Calls Tryz.prog 35 #[.slice A its.length c, .slice B keep.length c'] w fun e w' => ∃ v1 v2, e = .returned (.tuple #[v1, v2, .int .i64 0]) ∧ ItRow w' (fun b => w.heap.size ≤ b ∧ v2.ownBlock ≠ some b) v1 (cutM keep its) ∧ Own w' 9 v2 ((missM keep its).map Value.string) ∧ (∀ k, v2.ownBlock = some k → w.heap.size ≤ k) ∧ Below w.heap.size w w' := by
  have ht := tree_paths hT
  have hk := keep_paths hK
  have hc := check_calls w hi A c its hI hhi hG (fun x hx => by have := (ht.2 x hx).2.1; omega) (by omega)
  rw [hT, if_pos rfl] at hc
  have HC := Aside0.mk hc
  have HI := Aside0.mk hI
  have HS := Aside0.mk (And.intro hS (And.intro hhi hG))
  have HK := Aside0.mk hK
  have TP := Aside0.mk ht.2
  have KP := Aside0.mk hk.2
  have hn := ht.1
  have hm := hk.1
  obtain ⟨n, hnn⟩ : ∃ n, n = its.length := ⟨_, rfl⟩
  obtain ⟨m, hmm⟩ : ∃ m, m = keep.length := ⟨_, rfl⟩
  rw [← hnn] at hn ⊢
  rw [← hmm] at hm ⊢
  have NN := Aside0.mk hnn
  have MM := Aside0.mk hmm
  rw [← hnn] at HC
  clear hc hI hhi hG ht hT hS hK hk hnn hmm
  go_enter Tryz.func35, Tryz.ntmps35
  go_wp2_with fail
  go_step3
  go_wp2_with (first
    | (go_at_call 33
       refine HC.out.mono ?_
       rintro e w1 ⟨rfl, hB⟩
       have B1 := Aside0.mk hB
       clear hB)
    | (go_at_call 39
       have hcall := checkKeep_calls w1 hi B c' keep (HS.out.1.below B1.out HS.out.2.1) (Nat.le_trans HS.out.2.1 B1.out.size) (HS.out.2.2.below B1.out) (by have := MM.out; omega)
       rw [HK.out, if_pos rfl, ← MM.out] at hcall
       refine hcall.mono ?_
       rintro e w2 ⟨rfl, hB⟩
       have B2 := Aside0.mk (B1.out.trans (hB.mono B1.out.size))
       clear hB hcall)
    | (refine arm_make rfl _ _ 154 4 rfl (.bool false) rfl n 1 tu154 info4 rfl rfl (by omega) (by omega) ?_
       intro W3 bk hb hA hB
       have B3 := B2.out.trans (hB.mono B2.out.size)
       have S3 := Aside0.mk (show CutSt w W3 hi A B its keep bk (marks keep its n) from ⟨by rw [NN.out, marks_end, List.map_replicate, ← NN.out]; exact hA, B3, by have := B2.out.size; omega, HI.out.only (Only.of_below (S := fun _ => False) B3) HS.out.2.1 (fun _ h => h.elim), HS.out.1.below B3 HS.out.2.1, HS.out.2.2.below B3, HS.out.2.1, HS.out.2.2.lt⟩)
       clear hb hA hB B3)
    | fail)
  go_step3
  go_wp2_with fail
  go_loopg [10] n (fun g s10 wr => ∃ r : Nat, Aside0 (r = g ∧ r ≤ n) ∧ s10 = ixV r ∧ Aside0 (CutSt w wr hi A B its keep bk (marks keep its r)))
  case atStart => exact ⟨n, ⟨rfl, Nat.le_refl _⟩, (ixV_eq n).symm, S3⟩
  case round =>
    obtain ⟨r, HJ, rfl, S1⟩ := hrel
    cases r with
    | succ i =>
      have hg : i + 1 ≤ n := HJ.out.2
      rw [show ixV (i + 1) = .int .i64 (i : Int) from rfl]
      obtain ⟨x, hx⟩ : ∃ x, its[i]? = some x := ⟨_, List.getElem?_eq_getElem (by have := NN.out; omega)⟩
      have HX := Aside0.mk hx
      have XS := Aside0.mk (show x.path.size ≤ 1048575 by have := (TP.out x (List.mem_of_getElem? hx)).1; omega)
      obtain ⟨g0, o0, hA, hg0, _⟩ := S1.out.items (by intro h; rw [h] at hx; simp at hx)
      subst hA
      have G0 := Aside0.mk hg0
      have HIT := Aside0.mk (show ∀ W, RdI W hi (some ⟨g0, o0, none⟩) its → ∀ (j : Nat) (y : Itm), its[j]? = some y → W.cell? ⟨g0, o0 + j * 3, none⟩ = some (.string y.path) ∧ W.cell? ⟨g0, o0 + j * 3 + 1, none⟩ = some (.bool y.dir) from fun W hr j y hy => by
        obtain ⟨g1, o1, e1, _, hits⟩ := hr (by intro h; rw [h] at hy; simp at hy)
        injection e1 with e1
        injection e1 with e1 e2 _
        subst e1 e2
        obtain ⟨A', c2, hrow, _⟩ := hits j y hy
        exact ⟨by have e := hrow 0 _ rfl; exact e, by have e := hrow 1 _ rfl; exact e⟩)
      clear hx hg0
      rcases hka : keepAny keep x.path with _ | _
      · have KA0 := Aside0.mk (show false = keepAny (keep.drop 0) x.path from hka.symm)
        have KAE := Aside0.mk hka
        clear hka
        go_wp2_with fail
        go_loopg [44] m (fun g2 s44 wr => ∃ k : Nat, Aside0 (k + g2 = m) ∧ s44 = .int .i64 k ∧ Aside0 (false = keepAny (keep.drop k) x.path) ∧ Aside0 (CutSt w wr hi (some ⟨g0, o0, none⟩) B its keep bk (marks keep its (i + 1))))
        case atStart => exact ⟨0, ⟨by omega⟩, rfl, KA0, S1⟩
        case round =>
          obtain ⟨k, HK2, rfl, HR, S2⟩ := hrel
          by_cases hlt : k < m
          · obtain ⟨p, hp⟩ : ∃ p, keep[k]? = some p := ⟨_, List.getElem?_eq_getElem (by have := MM.out; omega)⟩
            have PS := Aside0.mk (show p.size ≤ 1048575 by have := KP.out p (List.mem_of_getElem? hp); omega)
            obtain ⟨g1, o1, hB1, hg1, hk1⟩ := S2.out.keeps (by intro h; rw [h] at hp; simp at hp)
            subst hB1
            have kp : wr.cell? ⟨g1, o1 + k, none⟩ = some (.string p) := hk1 k p hp
            have kx : wr.cell? ⟨g0, o0 + i * 3, none⟩ = some (.string x.path) := (HIT.out wr S2.out.items i x HX.out).1
            have hr := HR.out
            rw [List.drop_eq_getElem_cons (by have := MM.out; omega : k < keep.length), (List.getElem?_eq_some_iff.1 hp).2, keepAny, List.any_cons] at hr
            clear hp hk1
            rcases hun : under p x.path with _ | _
            · have UN := Aside0.mk hun
              have HR2 := Aside0.mk (show false = keepAny (keep.drop (k + 1)) x.path by rw [hr, hun]; rfl)
              clear hun hr
              go_wp2_with (first
                | (go_at_call 61
                   refine (under_calls p x.path wr S2.out.glob PS.out XS.out).mono ?_
                   rintro e w61 ⟨rfl, hB⟩
                   rw [UN.out]
                   have S61 := Aside0.mk (S2.out.step hB)
                   clear hB)
                | fail)
              go_roundg (m - (k + 1))
              case measure => have := HK2.out; omega
              case rel => exact ⟨k + 1, ⟨by have := HK2.out; omega⟩, by go_num, HR2, S61⟩
            · rw [hun] at hr; cases hr
          · obtain rfl : k = m := by have := HK2.out; omega
            clear HR
            rcases hd : x.dir with _ | _
            · have KF := Aside0.mk (show keptAt keep its i x = false by unfold keptAt; rw [KAE.out, hd]; rfl)
              have kd : wr.cell? ⟨g0, o0 + i * 3 + 1, none⟩ = some (.bool false) := by rw [← hd]; exact (HIT.out wr S2.out.items i x HX.out).2
              clear hd
              by_cases hin : i + 1 < n
              · go_wp2_with fail
                go_roundg i
                case measure => have := HJ.out; omega
                case rel => exact ⟨i, ⟨rfl, by omega⟩, by rw [ixV_eq], ⟨by rw [← marks_same keep HX.out KF.out]; exact S2.out⟩⟩
              · go_wp2_with fail
                go_roundg i
                case measure => have := HJ.out; omega
                case rel => exact ⟨i, ⟨rfl, by omega⟩, by rw [ixV_eq], ⟨by rw [← marks_same keep HX.out KF.out]; exact S2.out⟩⟩
            · have kd : wr.cell? ⟨g0, o0 + i * 3 + 1, none⟩ = some (.bool true) := by rw [← hd]; exact (HIT.out wr S2.out.items i x HX.out).2
              have XD := Aside0.mk hd
              clear hd
              by_cases hin : i + 1 < n
              · obtain ⟨R, hR⟩ : ∃ R, R = runM x.path (its.drop (i + 1)) (keptM keep (its.drop (i + 1))) := ⟨_, rfl⟩
                have KR := Aside0.mk (show keptAt keep its i x = R by unfold keptAt; rw [KAE.out, XD.out, hR]; rfl)
                have R0 := Aside0.mk hR
                clear hR
                go_wp2_with fail
                go_loopg [13] (n - (i + 1)) (fun g3 s13 wr => ∃ k : Nat, Aside0 (k + g3 = n ∧ i + 1 ≤ k) ∧ s13 = .int .i64 k ∧ Aside0 (R = runM x.path (its.drop k) (keptM keep (its.drop k))) ∧ Aside0 (CutSt w wr hi (some ⟨g0, o0, none⟩) B its keep bk (marks keep its (i + 1))))
                case atStart => exact ⟨i + 1, ⟨by omega, Nat.le_refl _⟩, by go_num, R0, S2⟩
                case round =>
                  obtain ⟨k, HK3, rfl, HR, S4⟩ := hrel
                  have hki := HK3.out.2
                  by_cases hlt : k < n
                  · obtain ⟨y, hy⟩ : ∃ y, its[k]? = some y := ⟨_, List.getElem?_eq_getElem (by have := NN.out; omega)⟩
                    have YS := Aside0.mk (show y.path.size ≤ 1048575 by have := (TP.out y (List.mem_of_getElem? hy)).1; omega)
                    have kx : wr.cell? ⟨g0, o0 + i * 3, none⟩ = some (.string x.path) := (HIT.out wr S4.out.items i x HX.out).1
                    have ky : wr.cell? ⟨g0, o0 + k * 3, none⟩ = some (.string y.path) := (HIT.out wr S4.out.items k y hy).1
                    have hr := HR.out
                    rw [run_cons keep x.path hy] at hr
                    have LK := Aside0.mk (marks_look keep hki hy)
                    clear hy
                    rcases hun : under x.path y.path with _ | _
                    · have UN := Aside0.mk hun
                      have HRF := Aside0.mk (show R = false by rw [hr, hun]; rfl)
                      clear hr hun
                      go_wp2_with fail
                      refine wp_region_quiet_tail 15 (by kernel_rfl) (by kernel_rfl) ?_
                      simp only [List.take_succ_cons, List.take_zero, List.drop_succ_cons, List.drop_zero]
                      repeat (first | go_big_quiet_skip | (go_big_quiet_want; go_big_quiet_op; first | go_big_quiet_on | (apply Exists.intro; refine ⟨?_, ?_⟩; (· (fail)); go_big_quiet_on)))
                      refine wpQuiet_nil ?_
                      go_wp2_with (first
                        | (go_at_call 61
                           have S5 := Aside0.mk (S4.out.step (show Below wr.heap.size wr wr.drew from ⟨rfl, rfl, rfl, Nat.le_refl _, fun _ _ => rfl⟩))
                           refine (under_calls x.path y.path wr.drew S5.out.glob XS.out YS.out).mono ?_
                           rintro e w61 ⟨rfl, hB⟩
                           rw [UN.out]
                           have S61 := Aside0.mk (S5.out.step hB)
                           clear hB)
                        | fail)
                      go_roundg i
                      case measure => have := HJ.out; omega
                      case rel => exact ⟨i, ⟨rfl, by omega⟩, by rw [ixV_eq], ⟨by rw [← marks_same keep HX.out (KR.out.trans HRF.out)]; exact S61.out⟩⟩
                    · have UN := Aside0.mk hun
                      rcases hkk : keptAt keep its k y with _ | _
                      · have HR2 := Aside0.mk (show R = runM x.path (its.drop (k + 1)) (keptM keep (its.drop (k + 1))) by rw [hr, hun, hkk]; rfl)
                        rw [hkk] at LK
                        clear hr hun hkk
                        go_wp2_with fail
                        refine wp_region_quiet_tail 15 (by kernel_rfl) (by kernel_rfl) ?_
                        simp only [List.take_succ_cons, List.take_zero, List.drop_succ_cons, List.drop_zero]
                        repeat (first | go_big_quiet_skip | (go_big_quiet_want; go_big_quiet_op; first | go_big_quiet_on | (apply Exists.intro; refine ⟨?_, ?_⟩; (· (fail)); go_big_quiet_on)))
                        refine wpQuiet_nil ?_
                        go_wp2_with (first
                          | (go_at_call 61
                             have S5 := Aside0.mk (S4.out.step (show Below wr.heap.size wr wr.drew from ⟨rfl, rfl, rfl, Nat.le_refl _, fun _ _ => rfl⟩))
                             refine (under_calls x.path y.path wr.drew S5.out.glob XS.out YS.out).mono ?_
                             rintro e w61 ⟨rfl, hB⟩
                             rw [UN.out]
                             have S61 := Aside0.mk (S5.out.step hB)
                             have kq : w61.cell? ⟨bk, k, none⟩ = some (.bool false) := by rw [S61.out.kept.cell, List.getElem?_map, LK.out]; rfl
                             clear hB)
                          | fail)
                        go_roundg (n - (k + 1))
                        case measure => have := HK3.out; omega
                        case rel => exact ⟨k + 1, ⟨by have := HK3.out; omega, by omega⟩, by go_num, HR2, S61⟩
                      · have KA := Aside0.mk (show keptAt keep its i x = true by rw [KR.out, hr, hun, hkk]; rfl)
                        rw [hkk] at LK
                        clear hr hun hkk
                        go_wp2_with fail
                        refine wp_region_quiet_tail 15 (by kernel_rfl) (by kernel_rfl) ?_
                        simp only [List.take_succ_cons, List.take_zero, List.drop_succ_cons, List.drop_zero]
                        repeat (first | go_big_quiet_skip | (go_big_quiet_want; go_big_quiet_op; first | go_big_quiet_on | (apply Exists.intro; refine ⟨?_, ?_⟩; (· (fail)); go_big_quiet_on)))
                        refine wpQuiet_nil ?_
                        go_wp2_with (first
                          | (go_at_call 61
                             have S5 := Aside0.mk (S4.out.step (show Below wr.heap.size wr wr.drew from ⟨rfl, rfl, rfl, Nat.le_refl _, fun _ _ => rfl⟩))
                             refine (under_calls x.path y.path wr.drew S5.out.glob XS.out YS.out).mono ?_
                             rintro e w61 ⟨rfl, hB⟩
                             rw [UN.out]
                             have S61 := Aside0.mk (S5.out.step hB)
                             have kq : w61.cell? ⟨bk, k, none⟩ = some (.bool true) := by rw [S61.out.kept.cell, List.getElem?_map, LK.out]; rfl
                             have kk : w61.cell? ⟨bk, i, none⟩ = some (.bool false) := by rw [S61.out.kept.cell, List.getElem?_map, marks_low keep its (Nat.lt_succ_self i)]; rfl
                             have ff : w61.frozen? ⟨bk, i, none⟩ = false := S61.out.kept.frozen i
                             clear hB)
                          | fail)
                        go_roundg i
                        case measure => have := HJ.out; omega
                        case rel => exact ⟨i, ⟨rfl, by omega⟩, by rw [ixV_eq], ⟨by rw [← marks_set keep HX.out KA.out]; exact S61.out.mark i⟩⟩
                  · obtain rfl : k = n := by have := HK3.out; omega
                    have hr := HR.out
                    rw [show its.drop k = [] from List.drop_eq_nil_of_le (by have := NN.out; omega)] at hr
                    have HRF := Aside0.mk (show R = false from hr)
                    clear hr HR
                    go_wp2_with fail
                    go_quiet (fail)
                    go_wp2_with fail
                    go_roundg i
                    case measure => have := HJ.out; omega
                    case rel => exact ⟨i, ⟨rfl, by omega⟩, by rw [ixV_eq], ⟨by rw [← marks_same keep HX.out (KR.out.trans HRF.out)]; exact S4.out.step ⟨rfl, rfl, rfl, Nat.le_refl _, fun _ _ => rfl⟩⟩⟩
              · have KF := Aside0.mk (show keptAt keep its i x = false by
                  unfold keptAt
                  rw [KAE.out, XD.out, show its.drop (i + 1) = [] from List.drop_eq_nil_of_le (by have := NN.out; omega)]
                  rfl)
                go_wp2_with fail
                go_roundg i
                case measure => have := HJ.out; omega
                case rel => exact ⟨i, ⟨rfl, by omega⟩, by rw [ixV_eq], ⟨by rw [← marks_same keep HX.out KF.out]; exact S2.out⟩⟩
      · have KA0 := Aside0.mk (show true = keepAny (keep.drop 0) x.path from hka.symm)
        have KA := Aside0.mk (show keptAt keep its i x = true by unfold keptAt; rw [hka]; rfl)
        clear hka
        go_wp2_with fail
        go_loopg [44] m (fun g2 s44 wr => ∃ k : Nat, Aside0 (k + g2 = m) ∧ s44 = .int .i64 k ∧ Aside0 (true = keepAny (keep.drop k) x.path) ∧ Aside0 (CutSt w wr hi (some ⟨g0, o0, none⟩) B its keep bk (marks keep its (i + 1))))
        case atStart => exact ⟨0, ⟨by omega⟩, rfl, KA0, S1⟩
        case round =>
          obtain ⟨k, HK2, rfl, HR, S2⟩ := hrel
          by_cases hlt : k < m
          · obtain ⟨p, hp⟩ : ∃ p, keep[k]? = some p := ⟨_, List.getElem?_eq_getElem (by have := MM.out; omega)⟩
            have PS := Aside0.mk (show p.size ≤ 1048575 by have := KP.out p (List.mem_of_getElem? hp); omega)
            obtain ⟨g1, o1, hB1, hg1, hk1⟩ := S2.out.keeps (by intro h; rw [h] at hp; simp at hp)
            subst hB1
            have kp : wr.cell? ⟨g1, o1 + k, none⟩ = some (.string p) := hk1 k p hp
            have kx : wr.cell? ⟨g0, o0 + i * 3, none⟩ = some (.string x.path) := (HIT.out wr S2.out.items i x HX.out).1
            have hr := HR.out
            rw [List.drop_eq_getElem_cons (by have := MM.out; omega : k < keep.length), (List.getElem?_eq_some_iff.1 hp).2, keepAny, List.any_cons] at hr
            clear hp hk1
            rcases hun : under p x.path with _ | _
            · have UN := Aside0.mk hun
              have HR2 := Aside0.mk (show true = keepAny (keep.drop (k + 1)) x.path by rw [hr, hun]; rfl)
              clear hun hr
              go_wp2_with (first
                | (go_at_call 61
                   refine (under_calls p x.path wr S2.out.glob PS.out XS.out).mono ?_
                   rintro e w61 ⟨rfl, hB⟩
                   rw [UN.out]
                   have S61 := Aside0.mk (S2.out.step hB)
                   clear hB)
                | fail)
              go_roundg (m - (k + 1))
              case measure => have := HK2.out; omega
              case rel => exact ⟨k + 1, ⟨by have := HK2.out; omega⟩, by go_num, HR2, S61⟩
            · have UN := Aside0.mk hun
              clear hun hr
              go_wp2_with (first
                | (go_at_call 61
                   refine (under_calls p x.path wr S2.out.glob PS.out XS.out).mono ?_
                   rintro e w61 ⟨rfl, hB⟩
                   rw [UN.out]
                   have S61 := Aside0.mk (S2.out.step hB)
                   have kk : w61.cell? ⟨bk, i, none⟩ = some (.bool false) := by rw [S61.out.kept.cell, List.getElem?_map, marks_low keep its (Nat.lt_succ_self i)]; rfl
                   have ff : w61.frozen? ⟨bk, i, none⟩ = false := S61.out.kept.frozen i
                   clear hB)
                | fail)
              go_roundg i
              case measure => have := HJ.out; omega
              case rel => exact ⟨i, ⟨rfl, by omega⟩, by rw [ixV_eq], ⟨by rw [← marks_set keep HX.out KA.out]; exact S61.out.mark i⟩⟩
          · obtain rfl : k = m := by have := HK2.out; omega
            have hr := HR.out
            rw [show keep.drop k = [] from List.drop_eq_nil_of_le (by have := MM.out; omega)] at hr
            cases hr
    | zero =>
      rw [show ixV 0 = .int .i64 (-1) from rfl]
      rw [marks_zero] at S1
      obtain ⟨KS, hKS⟩ : ∃ KS, KS = keptM keep its := ⟨_, rfl⟩
      rw [← hKS] at S1
      have KSE := Aside0.mk hKS
      have KSL := Aside0.mk (show KS.length = n by rw [hKS, keptM_len, NN.out])
      clear hKS HJ
      go_wp2_with fail
      go_loopg [101, 14] n (fun g4 s101 s14 wr => ∃ (k : Nat) (v14 : Value), Aside0 (k + g4 = n) ∧ s101 = .int .i64 k ∧ v14 = s14 ∧ Aside0 (ItRow wr (fun b => w.heap.size ≤ b ∧ b ≠ bk) v14 (pick (its.take k) KS)) ∧ Aside0 (CutSt w wr hi A B its keep bk KS))
      case atStart => exact ⟨0, _, ⟨by omega⟩, rfl, rfl, ⟨by rw [List.take_zero]; exact ItRow.nil _ _⟩, S1⟩
      case round =>
        obtain ⟨k, v14, HJ, rfl, rfl, HI4, S4⟩ := hrel
        by_cases hlt : k < n
        · obtain ⟨x, hx⟩ : ∃ x, its[k]? = some x := ⟨_, List.getElem?_eq_getElem (by have := NN.out; omega)⟩
          obtain ⟨b, hb⟩ : ∃ b, KS[k]? = some b := ⟨_, List.getElem?_eq_getElem (by have := KSL.out; omega)⟩
          have PN := Aside0.mk (pick_snoc its KS k x b hx hb)
          have DX := Aside0.mk (show x.data.length ≤ 1048576 from (TP.out x (List.mem_of_getElem? hx)).2.1)
          obtain ⟨g0, o0, hA, hg0, hits⟩ := S4.out.items (by intro h; rw [h] at hx; simp at hx)
          subst hA
          obtain ⟨A0, c0, r0, rc0, u0⟩ := hits k x hx
          have ROW := Aside0.mk r0
          have RD0 := Aside0.mk (show RdL wr A0 x.data from fun hne => by obtain ⟨ad, a1, a2, a3⟩ := u0 hne; exact ⟨ad, a1, by have := S4.out.hi_; have := S4.out.below.size; omega, a3⟩)
          have kq : wr.cell? ⟨bk, k, none⟩ = some (.bool b) := by rw [S4.out.kept.cell, List.getElem?_map, hb]; rfl
          clear hx hb hits r0 u0 hg0 rc0
          cases b with
          | false =>
            go_wp2_with (first
              | (refine arm_load_row rfl 50 _ rfl g0 (o0 + k * 3) rfl (icells x A0 c0) ROW.out row50 size50 ?_
                 intro v105 hv
                 have V105 := Aside0.mk hv
                 clear hv)
              | (refine arm_alloc rfl 50 rfl _ _ info50 ?_; intro W16 b16 hb hW
                 have G := V105.out
                 have hB : Below wr.heap.size wr W16 := by subst hW; exact (Below.refl _ _).alloc (Nat.le_refl _) _
                 have N16 := Aside0.mk (show At W16 b16 50 (icells noItm none 0) by subst hW hb; exact At.new _ _ _)
                 have S16 := Aside0.mk (S4.out.step hB)
                 have I16 := Aside0.mk ((HI4.out.mono (D' := fun b => (w.heap.size ≤ b ∧ b ≠ bk) ∧ b ≠ b16) (fun b hb2 hd => ⟨hd, by omega⟩)).below hB)
                 have B16 := Aside0.mk hB
                 have L16 := Aside0.mk (show b16 = wr.heap.size from hb)
                 clear hb hW hB G)
              | (refine arm_store_row rfl 50 _ _ rfl b16 50 _ (icells x A0 c0) rfl V105.out N16.out rfl size50 (one_icells _ _ _) ?_
                 intro W17 hW
                 have hO : Only (· = b16) W16.heap.size W16 W17 := by subst hW; exact Only.setRow (S := (· = b16)) (Only.refl _ _ _) (.inl rfl) _
                 have l16 := L16.out
                 have sb := S4.out.below.size
                 have sk := S4.out.kept.lt
                 have N17 := Aside0.mk (show At W17 b16 50 (icells x A0 c0) by subst hW; exact N16.out.setRow _)
                 have S17 := Aside0.mk (S16.out.write hO (fun b hb => by have e : b = b16 := hb; omega))
                 have B17 := Aside0.mk (B16.out.trans (hO.to_below B16.out.size (fun b hb => by have e : b = b16 := hb; omega)))
                 have I17 := Aside0.mk (I16.out.only hO (fun b hb hd => hd.2 hb))
                 have kq : W17.cell? ⟨bk, k, none⟩ = some (.bool false) := by rw [B17.out.cell (p := ⟨bk, k, none⟩) (by show bk < _; omega)]; exact kq
                 have k2 : W17.cell? ⟨b16, 2, none⟩ = some (.slice A0 x.data.length c0) := by rw [N17.out.cell]; rfl
                 clear hW hO l16 sb sk)
              | fail)
            go_roundg (n - (k + 1))
            case measure => have := HJ.out; omega
            case rel => exact ⟨k + 1, _, ⟨by have := HJ.out; omega⟩, by go_num, rfl, ⟨by rw [PN.out, if_neg (by decide), List.append_nil]; exact I17.out.mono (fun _ _ hd => hd.1)⟩, S17⟩
          | true =>
            have PL := Aside0.mk (show (pick (its.take k) KS).length ≤ 65536 by have h1 := pick_len (its.take k) KS; have h2 : (its.take k).length ≤ k := List.length_take_le _ _; omega)
            go_wp2_with (first
              | (have M := MK19.out
                 refine arm_load_row rfl 50 _ rfl b16 0 rfl (icells x A' c2) N19.out.rangeAll row50 size50 ?_
                 intro v115 hv
                 have V115 := Aside0.mk hv
                 clear hv)
              | (refine arm_slice1 rfl 22 50 _ rfl _ 3 (icells x A' c2) v115 rfl (by rw [V115.out]; rfl) tu22 info50 (by decide) (by decide) rfl ?_
                 intro W20 b20 hb hW
                 have hB : Below W19.heap.size W19 W20 := by subst hW; exact (Below.refl _ _).alloc (Nat.le_refl _) _
                 have A20 := Aside0.mk (show At W20 b20 50 (icells x A' c2) by subst hW hb; exact At.new _ _ _)
                 have S20 := Aside0.mk (S19.out.step hB)
                 have I20 := Aside0.mk (I19.out.below hB)
                 have B20 := Aside0.mk hB
                 clear hb hW hB)
              | (have G := S20.out
                 obtain ⟨As, hAs, hown, hinfo⟩ := I20.out.row
                 have hpl := PL.out
                 refine arm_appendR rfl _ _ 22 50 rfl _ 3 48 tu22 info50c rfl (by decide) v14 (pick (its.take k) KS).length (icellsL (pick (its.take k) KS) As) (icells x A' c2) rfl hown ⟨b20, 0, none⟩ 1 1 rfl rfl (fun i u hu => by rw [Addr.add_mid, A20.out.cell, Nat.zero_add]; exact hu) (one_icells _ _ _) (by show ((pick (its.take k) KS).length + 1) * 48 ≤ _; omega) (by show (pick (its.take k) KS).length + 1 ≤ _; omega) ?_
                 intro v21 W21 hV hO hq
                 have l17 := N17.out.lt
                 have sk := S17.out.kept.lt
                 have sb := S17.out.below.size
                 have l1920 : W17.heap.size ≤ W20.heap.size := by have := L19.out; have := B20.out.size; omega
                 have S21 := Aside0.mk (G.write hO (fun b hb => (I20.out.fresh b hb).1))
                 have I21 := Aside0.mk ((I20.out.snoc hAs hown hinfo hV C18.out hO (by rcases hq with hq | hq; exact Or.inl hq; exact Or.inr ⟨_, hq, Nat.le_refl _, ⟨by omega, by omega⟩, by omega⟩) (fun hne => by
                   obtain ⟨ad, q1, q2, q3, q4⟩ := R19.out hne
                   exact ⟨ad, q1, ⟨⟨by omega, by omega⟩, by omega⟩, Nat.lt_of_lt_of_le q3 B20.out.size, fun e => by have := vl.out _ e; have := L16.out; omega, fun k hk => by rw [B20.out.cell (by rw [add_block]; exact q3)]; exact q4 k hk⟩)).mono (D' := fun b => w.heap.size ≤ b ∧ b ≠ bk) (fun _ _ hd => hd.1))
                 clear hAs hown hinfo hV hO hq l17 sk sb l1920 hpl G)
              | (refine arm_load_row rfl 50 _ rfl g0 (o0 + k * 3) rfl (icells x A0 c0) ROW.out row50 size50 ?_
                 intro v105 hv
                 have V105 := Aside0.mk hv
                 clear hv)
              | (refine arm_alloc rfl 50 rfl _ _ info50 ?_; intro W16 b16 hb hW
                 have G := V105.out
                 have hB : Below wr.heap.size wr W16 := by subst hW; exact (Below.refl _ _).alloc (Nat.le_refl _) _
                 have N16 := Aside0.mk (show At W16 b16 50 (icells noItm none 0) by subst hW hb; exact At.new _ _ _)
                 have S16 := Aside0.mk (S4.out.step hB)
                 have I16 := Aside0.mk ((HI4.out.mono (D' := fun b => (w.heap.size ≤ b ∧ b ≠ bk) ∧ b ≠ b16) (fun b hb2 hd => ⟨hd, by omega⟩)).below hB)
                 have B16 := Aside0.mk hB
                 have L16 := Aside0.mk (show b16 = wr.heap.size from hb)
                 clear hb hW hB G)
              | (refine arm_store_row rfl 50 _ _ rfl b16 50 _ (icells x A0 c0) rfl V105.out N16.out rfl size50 (one_icells _ _ _) ?_
                 intro W17 hW
                 have hO : Only (· = b16) W16.heap.size W16 W17 := by subst hW; exact Only.setRow (S := (· = b16)) (Only.refl _ _ _) (.inl rfl) _
                 have l16 := L16.out
                 have sb := S4.out.below.size
                 have sk := S4.out.kept.lt
                 have N17 := Aside0.mk (show At W17 b16 50 (icells x A0 c0) by subst hW; exact N16.out.setRow _)
                 have S17 := Aside0.mk (S16.out.write hO (fun b hb => by have e : b = b16 := hb; omega))
                 have B17 := Aside0.mk (B16.out.trans (hO.to_below B16.out.size (fun b hb => by have e : b = b16 := hb; omega)))
                 have I17 := Aside0.mk (I16.out.only hO (fun b hb hd => hd.2 hb))
                 have kq : W17.cell? ⟨bk, k, none⟩ = some (.bool true) := by rw [B17.out.cell (p := ⟨bk, k, none⟩) (by show bk < _; omega)]; exact kq
                 have k2 : W17.cell? ⟨b16, 2, none⟩ = some (.slice A0 x.data.length c0) := by rw [N17.out.cell]; rfl
                 clear hW hO l16 sb sk)
              | (go_at_call 71
                 refine (clone_calls W17 A0 c0 x.data (RD0.out.below B17.out) (by have := DX.out; omega)).mono ?_
                 rintro e w18 ⟨v', rfl, hO, hF, hB⟩
                 obtain ⟨A', c2, hv', hc', hr', hq'⟩ := hO.rdl
                 subst hv'
                 have N18 := Aside0.mk (N17.out.below hB N17.out.lt)
                 have S18 := Aside0.mk (S17.out.step hB)
                 have I18 := Aside0.mk (I17.out.below hB)
                 have L18 := Aside0.mk hB.size
                 have C18 := Aside0.mk hc'
                 have l17 := S17.out.kept.lt
                 have l18 := S17.out.below.size
                 have R18 := Aside0.mk (show x.data ≠ [] → ∃ ad, A' = some ad ∧ W17.heap.size ≤ ad.block ∧ ad.block < w18.heap.size ∧ ∀ k, k < x.data.length → w18.cell? (ad.add k) = some (bv (x.data.getD k 0)) from fun hne => by
                   obtain ⟨ad, q1, q2, q3⟩ := hr' hne
                   obtain ⟨ad2, q4, q5⟩ := hq' hne
                   rw [q1] at q4
                   injection q4 with q4
                   subst q4
                   exact ⟨ad, q1, hF _ q5, q2, q3⟩)
                 have k2 : w18.cell? ⟨b16, 2, none⟩ = some (.slice A0 x.data.length c0) := by rw [N18.out.cell]; rfl
                 have f2 : w18.frozen? ⟨b16, 2, none⟩ = false := N18.out.frozen 2
                 clear hO hF hB hr' hq' hc' l17 l18)
              | (have G := N18.out
                 refine arm_store1 rfl 35 _ _ rfl ⟨b16, 2, none⟩ rfl (.slice A' x.data.length c2) rfl _ k2 f2 size35 rfl rfl ?_
                 intro W19 hW
                 have hO : Only (· = b16) w18.heap.size w18 W19 := by subst hW; exact Only.setCell (S := (· = b16)) (a := ⟨b16, 2, none⟩) (Only.refl _ _ _) (.inl rfl) _
                 have l16 := L16.out
                 have sb := S4.out.below.size
                 have sk := S4.out.kept.lt
                 have l17 := N17.out.lt
                 have N19 := Aside0.mk (show At W19 b16 50 (icells x A' c2) by subst hW; exact N18.out.setCell 2 _)
                 have S19 := Aside0.mk (S18.out.write hO (fun b hb => by have e : b = b16 := hb; omega))
                 have vl := Aside0.mk (show ∀ b, v14.ownBlock = some b → b < b16 from fun b hb => by have := HI4.out.lt hb; omega)
                 have I19 := Aside0.mk (I18.out.only hO (fun b hb hd => hd.2 hb))
                 have R19 := Aside0.mk (show x.data ≠ [] → ∃ ad, A' = some ad ∧ W17.heap.size ≤ ad.block ∧ ad.block < W19.heap.size ∧ ∀ k, k < x.data.length → W19.cell? (ad.add k) = some (bv (x.data.getD k 0)) from fun hne => by
                   obtain ⟨ad, q1, q2, q3, q4⟩ := R18.out hne
                   exact ⟨ad, q1, q2, Nat.lt_of_lt_of_le q3 hO.size, fun k hk => by rw [hO.cell (by rw [add_block]; exact q3) (by rw [add_block]; intro e; have e : ad.block = b16 := e; omega)]; exact q4 k hk⟩)
                 have L19 := Aside0.mk (show W17.heap.size ≤ W19.heap.size + 1 - 1 by have := hO.size; have := L18.out; omega)
                 have MK19 := Aside0.mk True.intro
                 clear hW hO l16 sb sk l17 k2 f2 G)
              | fail)
            go_roundg (n - (k + 1))
            case measure => have := HJ.out; omega
            case rel => exact ⟨k + 1, _, ⟨by have := HJ.out; omega⟩, by go_num, rfl, ⟨by rw [PN.out]; simpa using I21.out⟩, S21⟩
        · obtain rfl : k = n := by have := HJ.out; omega
          have I5 := Aside0.mk (show ItRow wr (fun b => w.heap.size ≤ b ∧ b ≠ bk) v14 (cutM keep its) by
            have e := HI4.out
            rw [List.take_of_length_le (by have := NN.out; omega), KSE.out] at e
            exact e)
          clear HI4
          obtain ⟨wr4, rfl⟩ : ∃ wo : World, wo = wr := ⟨_, rfl⟩
          go_wp2_with fail
          go_loopg [121, 17] m (fun g5 s121 s17 wr => ∃ (j : Nat) (v17 : Value), Aside0 (j + g5 = m) ∧ s121 = .int .i64 j ∧ v17 = s17 ∧ Aside0 (Own wr 9 v17 ((missM (keep.take j) its).map Value.string)) ∧ Aside0 (∀ b, v17.ownBlock = some b → wr4.heap.size ≤ b) ∧ Aside0 (Below wr4.heap.size wr4 wr) ∧ Aside0 (CutSt w wr hi A B its keep bk KS))
          case atStart => exact ⟨0, _, ⟨by omega⟩, rfl, rfl, ⟨by rw [List.take_zero]; exact Own.nil _ _⟩, ⟨fun b hb => by simp [Value.ownBlock] at hb⟩, ⟨Below.refl _ _⟩, S4⟩
          case round =>
            obtain ⟨j, v17, HJ5, rfl, rfl, HO5, HF5, HB5, S5⟩ := hrel
            by_cases hlt : j < m
            · obtain ⟨p, hp⟩ : ∃ p, keep[j]? = some p := ⟨_, List.getElem?_eq_getElem (by have := MM.out; omega)⟩
              have MN := Aside0.mk (miss_snoc its hp)
              obtain ⟨g1, o1, hB1, hg1, hk1⟩ := S5.out.keeps (by intro h; rw [h] at hp; simp at hp)
              subst hB1
              have kp : wr.cell? ⟨g1, o1 + j, none⟩ = some (.string p) := hk1 j p hp
              have ML := Aside0.mk (show (missM (keep.take j) its).length ≤ 64 by have h1 := List.length_filter_le (fun p => (findM p its).isNone && !p.toList.isEmpty) (keep.take j); have h2 : (keep.take j).length ≤ j := List.length_take_le _ _; unfold missM; omega)
              clear hp hk1 hg1
              rcases hf : findM p its with _ | q
              · have FN := Aside0.mk hf
                rcases he : p.toList.isEmpty with _ | _
                · have HM := Aside0.mk (show missM (keep.take (j + 1)) its = missM (keep.take j) its ++ [p] by rw [MN.out, if_pos (by rw [hf, he]; rfl)])
                  clear hf
                  go_wp2_with (first
                    | (go_at_call 40
                       obtain ⟨va, hva⟩ : ∃ va, va = Value.agg (icells noItm none 0).toArray := ⟨_, rfl⟩
                       have hcall := find_none wr hi A c its p S5.out.items (Nat.le_trans S5.out.hi_ S5.out.below.size) (by have := NN.out; omega) FN.out
                       rw [← hva, ← NN.out] at hcall
                       refine hcall.mono ?_
                       rintro e w6 ⟨rfl, hB⟩
                       have VA := Aside0.mk hva
                       have S6 := Aside0.mk (S5.out.step hB)
                       have B6 := Aside0.mk (HB5.out.trans (hB.mono HB5.out.size))
                       have O6 := Aside0.mk (HO5.out.below hB (fun b hb => HO5.out.lt hb))
                       clear hB hcall hva)
                    | (refine arm_alloc rfl 50 rfl _ _ info50 ?_; intro W7 b7 hb hW
                       have G := VA.out
                       have hB : Below w6.heap.size w6 W7 := by subst hW; exact (Below.refl _ _).alloc (Nat.le_refl _) _
                       have N7 := Aside0.mk (show At W7 b7 50 (icells noItm none 0) by subst hW hb; exact At.new _ _ _)
                       have S7 := Aside0.mk (S6.out.step hB)
                       have B7 := Aside0.mk (B6.out.trans (hB.mono B6.out.size))
                       have O7 := Aside0.mk (O6.out.below hB (fun b hb => O6.out.lt hb))
                       have L7 := Aside0.mk (show b7 = w6.heap.size from hb)
                       clear hb hW hB G)
                    | (refine arm_store_row rfl 50 _ _ rfl b7 50 _ (icells noItm none 0) rfl VA.out N7.out rfl size50 (one_icells _ _ _) ?_
                       intro W8 hW
                       have hO : Only (· = b7) W7.heap.size W7 W8 := by subst hW; exact Only.setRow (S := (· = b7)) (Only.refl _ _ _) (.inl rfl) _
                       have l7 := L7.out
                       have sb := S6.out.below.size
                       have sk := S6.out.kept.lt
                       have l6 := B6.out.size
                       have S8 := Aside0.mk (S7.out.write hO (fun b hb => by have e : b = b7 := hb; omega))
                       have B8 := Aside0.mk (B7.out.trans (hO.to_below B7.out.size (fun b hb => by have e : b = b7 := hb; omega)))
                       have O8 := Aside0.mk (O7.out.only hO (fun b hb => ⟨O7.out.lt hb, fun e => by have e : b = b7 := e; have := O6.out.lt hb; omega⟩))
                       clear hW hO l7 sb sk l6)
                    | (refine arm_slice1 rfl 66 9 _ rfl (.string ⟨#[]⟩) 1 [.string p] (.string p) rfl rfl Tryz.underlying66 info9s (by decide) (by decide) rfl ?_
                       intro W9 b9 hb hW
                       have hB : Below W8.heap.size W8 W9 := by subst hW; exact (Below.refl _ _).alloc (Nat.le_refl _) _
                       have A9 := Aside0.mk (show At W9 b9 9 [.string p] by subst hW hb; exact At.new _ _ _)
                       have S9 := Aside0.mk (S8.out.step hB)
                       have B9 := Aside0.mk (B8.out.trans (hB.mono B8.out.size))
                       have O9 := Aside0.mk (O8.out.below hB (fun b hb => O8.out.lt hb))
                       clear hb hW hB)
                    | (have G := S9.out
                       have ml := ML.out
                       refine arm_append rfl _ _ 66 9 rfl (.string ⟨#[]⟩) 16 Tryz.underlying66 info9 rfl v17 _ [.string p] rfl O9.out ⟨b9, 0, none⟩ 1 1 rfl rfl (fun i u hu => by rw [Addr.add_mid, A9.out.cell, Nat.zero_add]; exact hu) (by intro u hu; simp at hu; subst hu; rfl) (by rw [List.length_map]; show ((missM (keep.take j) its).length + 1) * 16 ≤ _; omega) (by rw [List.length_map]; show (missM (keep.take j) its).length + 1 ≤ _; omega) ?_
                       intro v10 W10 hV hO hq
                       have sb := S5.out.below.size
                       have l5 := HB5.out.size
                       have l9 := B9.out.size
                       have sw : w.heap.size ≤ wr4.heap.size := S4.out.below.size
                       have S10 := Aside0.mk (G.write hO (fun b hb => ⟨Nat.le_trans sw (HF5.out b hb), fun e => by have := HF5.out b hb; have := S4.out.kept.lt; omega⟩))
                       have B10 := Aside0.mk (B9.out.trans (hO.to_below B9.out.size (fun b hb => HF5.out b hb)))
                       have O10 := Aside0.mk hV
                       have F10 := Aside0.mk (show ∀ b, v10.ownBlock = some b → wr4.heap.size ≤ b from fun b hb => by
                         rcases hq with hq | hq
                         · rw [hq] at hb; exact HF5.out b hb
                         · rw [hq] at hb; injection hb with hb; omega)
                       clear hV hO hq sb l5 l9 sw ml G)
                    | fail)
                  go_roundg (m - (j + 1))
                  case measure => have := HJ5.out; omega
                  case rel => exact ⟨j + 1, _, ⟨by have := HJ5.out; omega⟩, by go_num, rfl, ⟨by rw [HM.out, List.map_append]; exact O10.out⟩, F10, B10, S10⟩
                · have HM := Aside0.mk (show missM (keep.take (j + 1)) its = missM (keep.take j) its by rw [MN.out, if_neg (by rw [hf, he]; decide), List.append_nil])
                  clear hf
                  go_wp2_with (first
                    | (go_at_call 40
                       obtain ⟨va, hva⟩ : ∃ va, va = Value.agg (icells noItm none 0).toArray := ⟨_, rfl⟩
                       have hcall := find_none wr hi A c its p S5.out.items (Nat.le_trans S5.out.hi_ S5.out.below.size) (by have := NN.out; omega) FN.out
                       rw [← hva, ← NN.out] at hcall
                       refine hcall.mono ?_
                       rintro e w6 ⟨rfl, hB⟩
                       have VA := Aside0.mk hva
                       have S6 := Aside0.mk (S5.out.step hB)
                       have B6 := Aside0.mk (HB5.out.trans (hB.mono HB5.out.size))
                       have O6 := Aside0.mk (HO5.out.below hB (fun b hb => HO5.out.lt hb))
                       clear hB hcall hva)
                    | (refine arm_alloc rfl 50 rfl _ _ info50 ?_; intro W7 b7 hb hW
                       have G := VA.out
                       have hB : Below w6.heap.size w6 W7 := by subst hW; exact (Below.refl _ _).alloc (Nat.le_refl _) _
                       have N7 := Aside0.mk (show At W7 b7 50 (icells noItm none 0) by subst hW hb; exact At.new _ _ _)
                       have S7 := Aside0.mk (S6.out.step hB)
                       have B7 := Aside0.mk (B6.out.trans (hB.mono B6.out.size))
                       have O7 := Aside0.mk (O6.out.below hB (fun b hb => O6.out.lt hb))
                       have L7 := Aside0.mk (show b7 = w6.heap.size from hb)
                       clear hb hW hB G)
                    | (refine arm_store_row rfl 50 _ _ rfl b7 50 _ (icells noItm none 0) rfl VA.out N7.out rfl size50 (one_icells _ _ _) ?_
                       intro W8 hW
                       have hO : Only (· = b7) W7.heap.size W7 W8 := by subst hW; exact Only.setRow (S := (· = b7)) (Only.refl _ _ _) (.inl rfl) _
                       have l7 := L7.out
                       have sb := S6.out.below.size
                       have sk := S6.out.kept.lt
                       have l6 := B6.out.size
                       have S8 := Aside0.mk (S7.out.write hO (fun b hb => by have e : b = b7 := hb; omega))
                       have B8 := Aside0.mk (B7.out.trans (hO.to_below B7.out.size (fun b hb => by have e : b = b7 := hb; omega)))
                       have O8 := Aside0.mk (O7.out.only hO (fun b hb => ⟨O7.out.lt hb, fun e => by have e : b = b7 := e; have := O6.out.lt hb; omega⟩))
                       clear hW hO l7 sb sk l6)
                    | fail)
                  go_roundg (m - (j + 1))
                  case measure => have := HJ5.out; omega
                  case rel => exact ⟨j + 1, _, ⟨by have := HJ5.out; omega⟩, by go_num, rfl, ⟨by rw [HM.out]; exact O8.out⟩, HF5, B8, S8⟩
              · have FN := Aside0.mk hf
                obtain ⟨y, hy, _⟩ := findM_some hf
                have YX := Aside0.mk hy
                have HM := Aside0.mk (show missM (keep.take (j + 1)) its = missM (keep.take j) its by rw [MN.out, if_neg (by rw [hf]; simp), List.append_nil])
                clear hf hy
                go_wp2_with (first
                  | (go_at_call 40
                     have hcall := find_some wr hi A c its p q y S5.out.items (Nat.le_trans S5.out.hi_ S5.out.below.size) (by have := NN.out; omega) (fun x hx => by have := (TP.out x hx).2.1; omega) FN.out YX.out
                     rw [← NN.out] at hcall
                     refine hcall.mono ?_
                     rintro e w6 ⟨A', c2, rfl, _, hB⟩
                     obtain ⟨va, hva⟩ : ∃ va, va = Value.agg (icells y A' c2).toArray := ⟨_, rfl⟩
                     rw [← hva]
                     have VA := Aside0.mk hva
                     have S6 := Aside0.mk (S5.out.step hB)
                     have B6 := Aside0.mk (HB5.out.trans (hB.mono HB5.out.size))
                     have O6 := Aside0.mk (HO5.out.below hB (fun b hb => HO5.out.lt hb))
                     clear hB hcall hva)
                  | (refine arm_alloc rfl 50 rfl _ _ info50 ?_; intro W7 b7 hb hW
                     have G := VA.out
                     have hB : Below w6.heap.size w6 W7 := by subst hW; exact (Below.refl _ _).alloc (Nat.le_refl _) _
                     have N7 := Aside0.mk (show At W7 b7 50 (icells noItm none 0) by subst hW hb; exact At.new _ _ _)
                     have S7 := Aside0.mk (S6.out.step hB)
                     have B7 := Aside0.mk (B6.out.trans (hB.mono B6.out.size))
                     have O7 := Aside0.mk (O6.out.below hB (fun b hb => O6.out.lt hb))
                     have L7 := Aside0.mk (show b7 = w6.heap.size from hb)
                     clear hb hW hB G)
                  | (refine arm_store_row rfl 50 _ _ rfl b7 50 _ (icells y A' c2) rfl VA.out N7.out rfl size50 (one_icells _ _ _) ?_
                     intro W8 hW
                     have hO : Only (· = b7) W7.heap.size W7 W8 := by subst hW; exact Only.setRow (S := (· = b7)) (Only.refl _ _ _) (.inl rfl) _
                     have l7 := L7.out
                     have sb := S6.out.below.size
                     have sk := S6.out.kept.lt
                     have l6 := B6.out.size
                     have S8 := Aside0.mk (S7.out.write hO (fun b hb => by have e : b = b7 := hb; omega))
                     have B8 := Aside0.mk (B7.out.trans (hO.to_below B7.out.size (fun b hb => by have e : b = b7 := hb; omega)))
                     have O8 := Aside0.mk (O7.out.only hO (fun b hb => ⟨O7.out.lt hb, fun e => by have e : b = b7 := e; have := O6.out.lt hb; omega⟩))
                     clear hW hO l7 sb sk l6)
                  | fail)
                go_roundg (m - (j + 1))
                case measure => have := HJ5.out; omega
                case rel => exact ⟨j + 1, _, ⟨by have := HJ5.out; omega⟩, by go_num, rfl, ⟨by rw [HM.out]; exact O8.out⟩, HF5, B8, S8⟩
            · obtain rfl : j = m := by have := HJ5.out; omega
              have O5 := Aside0.mk (show Own wr 9 v17 ((missM keep its).map Value.string) by
                have e := HO5.out
                rw [List.take_of_length_le (by have := MM.out; omega)] at e
                exact e)
              clear HO5
              go_wp2_with fail
              try rw [Exit.noGoto_ret]
              go_ret3
              refine ⟨v14, v17, rfl, (I5.out.mono (D' := fun b => w.heap.size ≤ b ∧ v17.ownBlock ≠ some b) (fun b hb hd => ⟨hd.1, fun e => by have := HF5.out b e; omega⟩)).below HB5.out, O5.out, fun k hk => Nat.le_trans S4.out.below.size (HF5.out k hk), S5.out.below⟩
            end Go.Proofs.YtbpfmlckddhgbaaGreatDoor
