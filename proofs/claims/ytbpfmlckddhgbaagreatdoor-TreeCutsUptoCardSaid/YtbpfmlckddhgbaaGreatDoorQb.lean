/-
  DERIVED: THE SHELF's CONTRACTS AT THIS DUMP, IN PLAIN WORDS (tools/lay-plain.mjs out of 'TryzShelf.lean', which tools/lay-shelf.mjs wrote): THE SAME DECLARATIONS UNDER THE SAME NAMES: 'import', 'namespace', 'open', 'def', 'theorem' AND NOTHING ELSE: no command of the shelf's: FOR A HAND-IN. Each laying: the table of numbers ('.._ren') and one theorem, a field a fact of the dump's own or the kernel's comparison; each contract: ONE APPLICATION.
-/
import Derived.Shelf.Strings.Builder1
import Derived.Shelf.Strings.Builder2
import Derived.Shelf.Strings.OnBuilder
import Derived.Shelf.Small.Utf8
import Derived.Shelf.Small.Bits
import Derived.Shelf.Small.Strs
import Derived.Shelf.Utf8.RuneCount
import Derived.Shelf.Strconv.Itoa0
import Derived.Shelf.Strings.Search1
import Derived.Shelf.Strings.Search2
import Derived.Shelf.Strings.Search3
import Derived.Shelf.Strings.Count
import Derived.Shelf.LaysM
import Derived.Shelf.Strings.Shaped
import Derived.Shelf.Strings.LastIndex
import Derived.Shelf.Strings.Split
import Derived.Shelf.Strings.SplitShaped
import Derived.Shelf.Unicode.Decode
import Derived.Shelf.Strings.Runes
import Derived.Shelf.Strings.RuneCount
import Derived.Shelf.Strings.IndexAny
import Derived.Shelf.Strings.AsciiSet
import Derived.Shelf.Strings.IndexAnyAll
import Derived.Shelf.Strings.Explode
import Derived.Shelf.Unicode.DecodeSlow
import Derived.Shelf.Slices.Equal
import Derived.Shelf.Slices.Empties2
import Derived.Shelf.Bytes.SlSearch0
import Derived.Ground.SlbCloneProg
import Derived.Shelf.Bytes.SlClone
import Derived.Shelf.Bytes.SlEqualAll
import Derived.Ground.PaProg
import Derived.Shelf.Path.Small
import Derived.Shelf.Bytes.Small
import Derived.Test.YtbpfmlckddhgbaaGreatDoorProg
import Derived.Lib.Split
import Derived.Lib.SplitLaws
import Derived.Test.YtbpfmlckddhgbaaGreatDoorQa
import Derived.Lib.Hide
import Derived.Handy
import Derived.Deep.QuietTactic
import Derived.BigQuiet
import Derived.Laws.RangeAny
import Derived.WalkMore
import Derived.LoopN
import Derived.Lib.OthersKept
import Derived.WalkLawsBesides
namespace Go.Proofs
open Go.Shelf
def Tryz.lays156_ren : Go.Shelf.Ren := ⟨fun | 156 => 174 | 165 => 218 | 166 => 219 | 169 => 220 | 240 => 254 | 241 => 255 | 276 => 272 | 277 => 273 | n => n, fun | 31 => 66 | 9 => 9 | 3 => 3 | 4 => 4 | 0 => 0 | 20 => 20 | 72 => 312 | 76 => 315 | 70 => 310 | 37 => 35 | 75 => 314 | 127 => 341 | 164 => 357 | 5 => 5 | 80 => 297 | n => n, fun | n => n⟩
theorem Tryz.lays156 : Go.Proofs.Lays.n156 Tryz.prog Tryz.lays156_ren := {
  mixed := by kernel_rfl
  f156 := Tryz.func174.trans (congrArg some (by kernel_rfl))
  f165 := Tryz.func218.trans (congrArg some (by kernel_rfl))
  f166 := Tryz.func219.trans (congrArg some (by kernel_rfl))
  f169 := Tryz.func220.trans (congrArg some (by kernel_rfl))
  f240 := Tryz.func254.trans (congrArg some (by kernel_rfl))
  f241 := Tryz.func255.trans (congrArg some (by kernel_rfl))
  f276 := Tryz.func272.trans (congrArg some (by kernel_rfl))
  f277 := Tryz.func273.trans (congrArg some (by kernel_rfl))
  t0 := Tryz.underlying0
  a0 := Tryz.isAgg0
  z0 := Tryz.sizeOf0
  v0 := Tryz.zeroValue0
  t3 := Tryz.underlying3
  a3 := Tryz.isAgg3
  z3 := Tryz.sizeOf3
  v3 := Tryz.zeroValue3
  t4 := Tryz.underlying4
  a4 := Tryz.isAgg4
  z4 := Tryz.sizeOf4
  v4 := Tryz.zeroValue4
  t9 := Tryz.underlying9
  a9 := Tryz.isAgg9
  z9 := Tryz.sizeOf9
  v9 := Tryz.zeroValue9
  t20 := Tryz.underlying20
  a20 := Tryz.isAgg20
  z20 := Tryz.sizeOf20
  v20 := Tryz.zeroValue20
  t31 := Tryz.underlying66
  a31 := Tryz.isAgg66
  z31 := Tryz.sizeOf66
  v31 := Tryz.zeroValue66
  t37 := Tryz.underlying35
  a37 := Tryz.isAgg35
  z37 := Tryz.sizeOf35
  v37 := Tryz.zeroValue35
  t70 := Tryz.underlying310
  a70 := Tryz.isAgg310
  z70 := Tryz.sizeOf310
  v70 := Tryz.zeroValue310
  t72 := Tryz.underlying312
  a72 := Tryz.isAgg312
  z72 := Tryz.sizeOf312
  v72 := Tryz.zeroValue312
  t75 := Tryz.underlying314
  a75 := Tryz.isAgg314
  z75 := Tryz.sizeOf314
  v75 := Tryz.zeroValue314
  t76 := Tryz.underlying315
  a76 := Tryz.isAgg315
  z76 := Tryz.sizeOf315
  v76 := Tryz.zeroValue315
  t127 := Tryz.underlying341
  a127 := Tryz.isAgg341
  z127 := Tryz.sizeOf341
  v127 := Tryz.zeroValue341
  t164 := Tryz.underlying357
  a164 := Tryz.isAgg357
  z164 := Tryz.sizeOf357
  v164 := Tryz.zeroValue357 }
theorem Tryz.Builder_Extra_156 : Builder.Extra Tryz.prog Tryz.lays156_ren := {
  sizeBuilder := by kernel_rfl
  liesBuilder := by kernel_rfl
  t5 := Tryz.underlying5
  a5 := Tryz.isAgg5
  z5 := Tryz.sizeOf5
  v5 := Tryz.zeroValue5
  infoByte := by kernel_rfl
  cellsByte := by kernel_rfl
  sizeByte := by kernel_rfl
  neB5 := by decide }
open Go.RowKit in
theorem Tryz.strings_Join_none (a : Option Addr) (c : Nat) (sep : ByteArray) (w : World) :
    Calls Tryz.prog 174 #[.slice a 0 c, .string sep] w fun e w' => e = .returned (.string ⟨#[]⟩) ∧ w' = w := Any.strings_Join_none Tryz.lays156 Tryz.Builder_Extra_156 a c sep w
open Go.RowKit in
theorem Tryz.strings_Join (bk o c : Nat) (xs : List ByteArray) (sep : ByteArray) (w : World) (hcells : ∀ (j : Nat) x, xs[j]? = some x → w.cell? ⟨bk, o + j, none⟩ = some (.string x)) (hbk : bk < w.heap.size) (hN : xs.length ≤ 140737488355328) (hcap : xs.length ≤ c) (hlen : (Lib.join (xs.map (·.data.toList)) sep.data.toList).length ≤ 140737488355328) :
    Calls Tryz.prog 174 #[.slice (some ⟨bk, o, none⟩) xs.length c, .string sep] w fun e w' => e = .returned (.string ⟨(Lib.join (xs.map (·.data.toList)) sep.data.toList).toArray⟩) ∧ Below w.heap.size w w' := Any.strings_Join Tryz.lays156 Tryz.Builder_Extra_156 bk o c xs sep w hcells hbk hN hcap hlen
def Tryz.lays119_ren : Go.Shelf.Ren := ⟨fun | 119 => 289 | n => n, fun | 21 => 21 | 4 => 4 | n => n, fun | n => n⟩
theorem Tryz.lays119 : Go.Proofs.Lays.n119 Tryz.prog Tryz.lays119_ren := {
  mixed := by kernel_rfl
  f119 := Tryz.func289.trans (congrArg some (by kernel_rfl))
  t4 := Tryz.underlying4
  a4 := Tryz.isAgg4
  z4 := Tryz.sizeOf4
  v4 := Tryz.zeroValue4
  t21 := Tryz.underlying21
  a21 := Tryz.isAgg21
  z21 := Tryz.sizeOf21
  v21 := Tryz.zeroValue21 }
theorem Tryz.utf8_ValidRune (r : Int) (w : World) :
    Calls Tryz.prog 289 #[.int .i32 r] w fun e w' => e = .returned (.bool (Lib.validRune r)) ∧ w' = w := Any.utf8_ValidRune Tryz.lays119 r w
def Tryz.lays137_ren : Go.Shelf.Ren := ⟨fun | 137 => 288 | 217 => 293 | 266 => 298 | n => n, fun | 9 => 9 | 5 => 5 | 3 => 3 | n => n, fun | n => n⟩
theorem Tryz.lays137 : Go.Proofs.Lays.n137 Tryz.prog Tryz.lays137_ren := {
  mixed := by kernel_rfl
  f137 := Tryz.func288.trans (congrArg some (by kernel_rfl))
  f217 := Tryz.func293.trans (congrArg some (by kernel_rfl))
  f266 := Tryz.func298.trans (congrArg some (by kernel_rfl))
  t3 := Tryz.underlying3
  a3 := Tryz.isAgg3
  z3 := Tryz.sizeOf3
  v3 := Tryz.zeroValue3
  t5 := Tryz.underlying5
  a5 := Tryz.isAgg5
  z5 := Tryz.sizeOf5
  v5 := Tryz.zeroValue5
  t9 := Tryz.underlying9
  a9 := Tryz.isAgg9
  z9 := Tryz.sizeOf9
  v9 := Tryz.zeroValue9 }
open Go.RowKit in
theorem Tryz.strings_IndexByte (s : ByteArray) (c : Int) (w : World) :
    Calls Tryz.prog 288 #[.string s, .int .u8 c] w fun e w' => e = .returned (.int .i64 (Lib.indexByte s.data.toList c.toNat.toUInt8)) ∧ w' = w := Any.strings_IndexByte Tryz.lays137 s c w
def Tryz.lays149_ren : Go.Shelf.Ren := ⟨fun | 149 => 128 | 222 => 193 | n => n, fun | 9 => 9 | 5 => 5 | 3 => 3 | 4 => 4 | n => n, fun | n => n⟩
theorem Tryz.lays149 : Go.Proofs.Lays.n149 Tryz.prog Tryz.lays149_ren := {
  mixed := by kernel_rfl
  f149 := Tryz.func128.trans (congrArg some (by kernel_rfl))
  f222 := Tryz.func193.trans (congrArg some (by kernel_rfl))
  t3 := Tryz.underlying3
  a3 := Tryz.isAgg3
  z3 := Tryz.sizeOf3
  v3 := Tryz.zeroValue3
  t4 := Tryz.underlying4
  a4 := Tryz.isAgg4
  z4 := Tryz.sizeOf4
  v4 := Tryz.zeroValue4
  t5 := Tryz.underlying5
  a5 := Tryz.isAgg5
  z5 := Tryz.sizeOf5
  v5 := Tryz.zeroValue5
  t9 := Tryz.underlying9
  a9 := Tryz.isAgg9
  z9 := Tryz.sizeOf9
  v9 := Tryz.zeroValue9 }
open Go.RowKit Go.Lib in
theorem Tryz.strings_LastIndexByte (s : ByteArray) (c : Int) (hs : s.size < 4611686018427387904) (w : World) :
    Calls Tryz.prog 128 #[.string s, .int .u8 c] w fun e w' => e = .returned (.int .i64 (Lib.lastIndexByte s c)) ∧ w' = w := Any.strings_LastIndexByte Tryz.lays149 s c hs w
def Tryz.lays146_ren : Go.Shelf.Ren := ⟨fun | 146 => 177 | 221 => 221 | 268 => 256 | 138 => 257 | 143 => 258 | 195 => 274 | 197 => 275 | 218 => 276 | 219 => 277 | 260 => 292 | 217 => 293 | 225 => 291 | 224 => 290 | 267 => 294 | 266 => 298 | 314 => 299 | n => n, fun | 9 => 9 | 31 => 66 | 3 => 3 | 4 => 4 | 0 => 0 | 105 => 359 | 21 => 21 | 5 => 5 | 46 => 207 | 119 => 373 | 139 => 376 | 138 => 375 | 146 => 377 | 51 => 274 | n => n, fun | 1 => 0 | 3 => 1 | 4 => 2 | n => n⟩
theorem Tryz.lays146 : Go.Proofs.Lays.n146 Tryz.prog Tryz.lays146_ren := {
  mixed := by kernel_rfl
  f138 := Tryz.func257.trans (congrArg some (by kernel_rfl))
  f143 := Tryz.func258.trans (congrArg some (by kernel_rfl))
  f146 := Tryz.func177.trans (congrArg some (by kernel_rfl))
  f195 := Tryz.func274.trans (congrArg some (by kernel_rfl))
  f197 := Tryz.func275.trans (congrArg some (by kernel_rfl))
  f217 := Tryz.func293.trans (congrArg some (by kernel_rfl))
  f218 := Tryz.func276.trans (congrArg some (by kernel_rfl))
  f219 := Tryz.func277.trans (congrArg some (by kernel_rfl))
  f221 := Tryz.func221.trans (congrArg some (by kernel_rfl))
  f224 := Tryz.func290.trans (congrArg some (by kernel_rfl))
  f225 := Tryz.func291.trans (congrArg some (by kernel_rfl))
  f260 := Tryz.func292.trans (congrArg some (by kernel_rfl))
  f266 := Tryz.func298.trans (congrArg some (by kernel_rfl))
  f267 := Tryz.func294.trans (congrArg some (by kernel_rfl))
  f268 := Tryz.func256.trans (congrArg some (by kernel_rfl))
  f314 := Tryz.func299.trans (congrArg some (by kernel_rfl))
  t0 := Tryz.underlying0
  a0 := Tryz.isAgg0
  z0 := Tryz.sizeOf0
  v0 := Tryz.zeroValue0
  t3 := Tryz.underlying3
  a3 := Tryz.isAgg3
  z3 := Tryz.sizeOf3
  v3 := Tryz.zeroValue3
  t4 := Tryz.underlying4
  a4 := Tryz.isAgg4
  z4 := Tryz.sizeOf4
  v4 := Tryz.zeroValue4
  t5 := Tryz.underlying5
  a5 := Tryz.isAgg5
  z5 := Tryz.sizeOf5
  v5 := Tryz.zeroValue5
  t9 := Tryz.underlying9
  a9 := Tryz.isAgg9
  z9 := Tryz.sizeOf9
  v9 := Tryz.zeroValue9
  t21 := Tryz.underlying21
  a21 := Tryz.isAgg21
  z21 := Tryz.sizeOf21
  v21 := Tryz.zeroValue21
  t31 := Tryz.underlying66
  a31 := Tryz.isAgg66
  z31 := Tryz.sizeOf66
  v31 := Tryz.zeroValue66
  t46 := Tryz.underlying207
  a46 := Tryz.isAgg207
  z46 := Tryz.sizeOf207
  v46 := Tryz.zeroValue207
  t51 := Tryz.underlying274
  a51 := Tryz.isAgg274
  z51 := Tryz.sizeOf274
  v51 := Tryz.zeroValue274
  t105 := Tryz.underlying359
  a105 := Tryz.isAgg359
  z105 := Tryz.sizeOf359
  v105 := Tryz.zeroValue359
  t119 := Tryz.underlying373
  a119 := Tryz.isAgg373
  z119 := Tryz.sizeOf373
  t138 := Tryz.underlying375
  a138 := Tryz.isAgg375
  z138 := Tryz.sizeOf375
  v138 := Tryz.zeroValue375
  t139 := Tryz.underlying376
  a139 := Tryz.isAgg376
  z139 := Tryz.sizeOf376
  v139 := Tryz.zeroValue376
  t146 := Tryz.underlying377
  a146 := Tryz.isAgg377
  z146 := Tryz.sizeOf377
  v146 := Tryz.zeroValue377
  g1 := by kernel_rfl
  g3 := by kernel_rfl
  g4 := by kernel_rfl }
open Go.RowKit Go.Lib in
theorem Tryz.strings_Split (s sep : ByteArray) (m : Int) (w : World) (hs : s.size < 4294967281) (hm : w.cell? ⟨0, 0, none⟩ = some (.int .i64 m)) (h1 : 1 ≤ sep.size) :
    Calls Tryz.prog 177 #[.string s, .string sep] w fun e w' =>
      e = .returned (.slice (some ⟨w.heap.size, 0, none⟩) (Lib.countB s sep + 1) (Lib.countB s sep + 1)) ∧ w' = w.alloc (.cells ((Lib.splitB sep 0 (Lib.countB s sep) s).map Value.string).toArray 9) := Any.strings_Split Tryz.lays146 (by kernel_rfl) s sep m w hs hm h1
def Tryz.lays152_ren : Go.Shelf.Ren := ⟨fun | 152 => 268 | 137 => 288 | 119 => 289 | 224 => 290 | 225 => 291 | 217 => 293 | 266 => 298 | n => n, fun | 9 => 9 | 21 => 21 | 3 => 3 | 4 => 4 | 5 => 5 | 0 => 0 | 46 => 207 | n => n, fun | n => n⟩
theorem Tryz.lays152 : Go.Proofs.Lays.n152 Tryz.prog Tryz.lays152_ren := {
  mixed := by kernel_rfl
  f119 := Tryz.func289.trans (congrArg some (by kernel_rfl))
  f137 := Tryz.func288.trans (congrArg some (by kernel_rfl))
  f152 := Tryz.func268.trans (congrArg some (by kernel_rfl))
  f217 := Tryz.func293.trans (congrArg some (by kernel_rfl))
  f224 := Tryz.func290.trans (congrArg some (by kernel_rfl))
  f225 := Tryz.func291.trans (congrArg some (by kernel_rfl))
  f266 := Tryz.func298.trans (congrArg some (by kernel_rfl))
  t0 := Tryz.underlying0
  a0 := Tryz.isAgg0
  z0 := Tryz.sizeOf0
  v0 := Tryz.zeroValue0
  t3 := Tryz.underlying3
  a3 := Tryz.isAgg3
  z3 := Tryz.sizeOf3
  v3 := Tryz.zeroValue3
  t4 := Tryz.underlying4
  a4 := Tryz.isAgg4
  z4 := Tryz.sizeOf4
  v4 := Tryz.zeroValue4
  t5 := Tryz.underlying5
  a5 := Tryz.isAgg5
  z5 := Tryz.sizeOf5
  v5 := Tryz.zeroValue5
  t9 := Tryz.underlying9
  a9 := Tryz.isAgg9
  z9 := Tryz.sizeOf9
  v9 := Tryz.zeroValue9
  t21 := Tryz.underlying21
  a21 := Tryz.isAgg21
  z21 := Tryz.sizeOf21
  v21 := Tryz.zeroValue21
  t46 := Tryz.underlying207
  a46 := Tryz.isAgg207
  z46 := Tryz.sizeOf207
  v46 := Tryz.zeroValue207 }
open Go.RowKit Go.Lib in
theorem Tryz.strings_IndexRune_ascii (s : ByteArray) (r : Int) (w : World) (h0 : 0 ≤ r) (h1 : r < 128) :
    Calls Tryz.prog 268 #[.string s, .int .i32 r] w fun e w' => e = .returned (.int .i64 (Lib.indexByte s.data.toList r.toNat.toUInt8)) ∧ w' = w := Any.strings_IndexRune_ascii Tryz.lays152 s r w h0 h1
def Tryz.lays226_ren : Go.Shelf.Ren := ⟨fun | 226 => 269 | n => n, fun | 3 => 3 | 4 => 4 | n => n, fun | n => n⟩
theorem Tryz.lays226 : Go.Proofs.Lays.n226 Tryz.prog Tryz.lays226_ren := {
  mixed := by kernel_rfl
  f226 := Tryz.func269.trans (congrArg some (by kernel_rfl))
  t3 := Tryz.underlying3
  a3 := Tryz.isAgg3
  z3 := Tryz.sizeOf3
  v3 := Tryz.zeroValue3
  t4 := Tryz.underlying4
  a4 := Tryz.isAgg4
  z4 := Tryz.sizeOf4
  v4 := Tryz.zeroValue4 }
open Go.RowKit Go.Lib in
theorem Tryz.strings_shouldUseASCIISet (n : Int) (w : World) :
    Calls Tryz.prog 269 #[.int .i64 n] w fun e w' => e = .returned (.bool (decide (8 < n))) ∧ w' = w := Any.strings_shouldUseASCIISet Tryz.lays226 n w
def Tryz.lays153_ren : Go.Shelf.Ren := ⟨fun | 153 => 253 | 152 => 268 | 226 => 269 | 227 => 270 | 228 => 271 | 137 => 288 | 119 => 289 | 224 => 290 | 225 => 291 | 217 => 293 | 266 => 298 | n => n, fun | 9 => 9 | 3 => 3 | 4 => 4 | 5 => 5 | 21 => 21 | 117 => 354 | 116 => 353 | 0 => 0 | 46 => 207 | 124 => 370 | n => n, fun | n => n⟩
theorem Tryz.lays153 : Go.Proofs.Lays.n153 Tryz.prog Tryz.lays153_ren := {
  mixed := by kernel_rfl
  f119 := Tryz.func289.trans (congrArg some (by kernel_rfl))
  f137 := Tryz.func288.trans (congrArg some (by kernel_rfl))
  f152 := Tryz.func268.trans (congrArg some (by kernel_rfl))
  f153 := Tryz.func253.trans (congrArg some (by kernel_rfl))
  f217 := Tryz.func293.trans (congrArg some (by kernel_rfl))
  f224 := Tryz.func290.trans (congrArg some (by kernel_rfl))
  f225 := Tryz.func291.trans (congrArg some (by kernel_rfl))
  f226 := Tryz.func269.trans (congrArg some (by kernel_rfl))
  f227 := Tryz.func270.trans (congrArg some (by kernel_rfl))
  f228 := Tryz.func271.trans (congrArg some (by kernel_rfl))
  f266 := Tryz.func298.trans (congrArg some (by kernel_rfl))
  t0 := Tryz.underlying0
  a0 := Tryz.isAgg0
  z0 := Tryz.sizeOf0
  v0 := Tryz.zeroValue0
  t3 := Tryz.underlying3
  a3 := Tryz.isAgg3
  z3 := Tryz.sizeOf3
  v3 := Tryz.zeroValue3
  t4 := Tryz.underlying4
  a4 := Tryz.isAgg4
  z4 := Tryz.sizeOf4
  v4 := Tryz.zeroValue4
  t5 := Tryz.underlying5
  a5 := Tryz.isAgg5
  z5 := Tryz.sizeOf5
  v5 := Tryz.zeroValue5
  t9 := Tryz.underlying9
  a9 := Tryz.isAgg9
  z9 := Tryz.sizeOf9
  v9 := Tryz.zeroValue9
  t21 := Tryz.underlying21
  a21 := Tryz.isAgg21
  z21 := Tryz.sizeOf21
  v21 := Tryz.zeroValue21
  t46 := Tryz.underlying207
  a46 := Tryz.isAgg207
  z46 := Tryz.sizeOf207
  v46 := Tryz.zeroValue207
  t116 := Tryz.underlying353
  a116 := Tryz.isAgg353
  z116 := Tryz.sizeOf353
  t117 := Tryz.underlying354
  a117 := Tryz.isAgg354
  z117 := Tryz.sizeOf354
  v117 := Tryz.zeroValue354
  t124 := Tryz.underlying370
  a124 := Tryz.isAgg370
  z124 := Tryz.sizeOf370
  v124 := Tryz.zeroValue370 }
open Go.RowKit Go.Lib in
theorem Tryz.strings_IndexAny_long (hv116 : ∀ w, (zeroValue 353).run Tryz.prog w = .ok (.agg (Array.replicate 256 (.bool false))) w) (s chars : ByteArray) (w : World) (h2 : 2 ≤ chars.size) (h8 : 8 < s.size) (hs : s.size < 4294967281) (hcs : chars.size < 4294967281) (hascii : ∀ (j : Nat) b, chars.data.toList[j]? = some b → b.toNat < 128) :
    Calls Tryz.prog 253 #[.string s, .string chars] w fun e w' => e = .returned (.int .i64 (Lib.indexAny s.data.toList chars.data.toList)) ∧ w' = ((w.alloc (.cells (Lib.setCells chars.data.toList) 353)).alloc (.cells (Lib.setCells chars.data.toList) 353)) := Any.strings_IndexAny_long Tryz.lays153 hv116 (by kernel_rfl) s chars w h2 h8 hs hcs hascii
def Tryz.lays193_ren : Go.Shelf.Ren := ⟨fun | 193 => 109 | n => n, fun | 31 => 66 | 9 => 9 | 4 => 4 | 3 => 3 | 0 => 0 | n => n, fun | n => n⟩
theorem Tryz.lays193 : Go.Proofs.Lays.n193 Tryz.prog Tryz.lays193_ren := {
  mixed := by kernel_rfl
  f193 := Tryz.func109.trans (congrArg some (by kernel_rfl))
  t0 := Tryz.underlying0
  a0 := Tryz.isAgg0
  z0 := Tryz.sizeOf0
  v0 := Tryz.zeroValue0
  t3 := Tryz.underlying3
  a3 := Tryz.isAgg3
  z3 := Tryz.sizeOf3
  v3 := Tryz.zeroValue3
  t4 := Tryz.underlying4
  a4 := Tryz.isAgg4
  z4 := Tryz.sizeOf4
  v4 := Tryz.zeroValue4
  t9 := Tryz.underlying9
  a9 := Tryz.isAgg9
  z9 := Tryz.sizeOf9
  v9 := Tryz.zeroValue9
  t31 := Tryz.underlying66
  a31 := Tryz.isAgg66
  z31 := Tryz.sizeOf66
  v31 := Tryz.zeroValue66 }
open Go.RowKit Go.Lib in
theorem Tryz.slices_Equal_string (b1 o1 n c b2 o2 m d : Nat) (xs ys : List ByteArray) (w : World) (hx : n ≤ xs.length) (hy : m ≤ ys.length) (hbig : n ≤ 9223372036854775807) (hbig2 : m ≤ 9223372036854775807) (hc1 : ∀ j, j < xs.length → w.cell? ⟨b1, o1 + j, none⟩ = some (.string (xs.getD j ByteArray.empty))) (hc2 : ∀ j, j < ys.length → w.cell? ⟨b2, o2 + j, none⟩ = some (.string (ys.getD j ByteArray.empty))) :
    Calls Tryz.prog 109 #[.slice (some ⟨b1, o1, none⟩) n c, .slice (some ⟨b2, o2, none⟩) m d] w fun e w' => e = .returned (.bool (decide (xs.take n = ys.take m))) ∧ ∃ q, w' = w.drewN q := Any.slices_Equal_string Tryz.lays193 b1 o1 n c b2 o2 m d xs ys w hx hy hbig hbig2 hc1 hc2
open Go.RowKit Go.Lib in
theorem Tryz.slices_Equal_string_empty (a1 a2 : Option Addr) (c m d : Nat) (w : World) (hbig2 : m ≤ 9223372036854775807) :
    Calls Tryz.prog 109 #[.slice a1 0 c, .slice a2 m d] w fun e w' => e = .returned (.bool (decide (m = 0))) ∧ w' = w := Any.slices_Equal_string_empty Tryz.lays193 a1 a2 c m d w hbig2
def Tryz.laysSlK4_ren : Go.Shelf.Ren := ⟨fun | 4 => 71 | n => n, fun | 22 => 35 | 4 => 4 | 5 => 5 | n => n, fun | n => n⟩
theorem Tryz.laysSlK4 : Go.Proofs.SlLaysK.n4 Tryz.prog Tryz.laysSlK4_ren := {
  mixed := by kernel_rfl
  f4 := Tryz.func71.trans (congrArg some (by kernel_rfl))
  t4 := Tryz.underlying4
  a4 := Tryz.isAgg4
  z4 := Tryz.sizeOf4
  v4 := Tryz.zeroValue4
  t22 := Tryz.underlying35
  a22 := Tryz.isAgg35
  z22 := Tryz.sizeOf35
  v22 := Tryz.zeroValue35
  t5 := Tryz.underlying5
  i5 := by kernel_rfl }
open Go.RowKit Go.Lib in
theorem Tryz.bytes_Clone_at (a : Addr) (n c : Nat) (xs : List Int) (w : World) (hx : xs.length = n) (hbig : n ≤ 140737488355328) (hc : ∀ i, i < n → w.cell? (a.add i) = some (.int .u8 (xs.getD i 0))) :
    Calls Tryz.prog 71 #[.slice (some a) n c] w fun e w' => ∃ v', e = .returned v' ∧ w'.ownsRow w.heap.size 5 1 v' n (xs.map (Value.int .u8)) ∧ v' ≠ .slice none 0 0 ∧ Below w.heap.size w w' := Any.bytes_Clone_at Tryz.laysSlK4 a n c xs w hx hbig hc
open Go.RowKit Go.Lib in
theorem Tryz.bytes_Clone_nil (n c : Nat) (w : World) :
    Calls Tryz.prog 71 #[.slice none n c] w fun e w' => e = .returned (.slice none 0 0) ∧ w' = w := Any.bytes_Clone_nil Tryz.laysSlK4 n c w
end Go.Proofs
/- Plain words on byte strings: how a path is cut into parts, what a name is, the order of paths. No program in this text. -/
namespace Go.Proofs.YtbpfmlckddhgbaaGreatDoor
open Go
def B (l : List UInt8) : ByteArray := ⟨l.toArray⟩
theorem B_data (l : List UInt8) : (B l).data.toList = l := rfl
theorem B_of (s : ByteArray) : B s.data.toList = s := by
  rcases s with ⟨a⟩
  show ByteArray.mk a.toList.toArray = _
  rw [Array.toArray_toList]
theorem B_inj {a b : List UInt8} (h : B a = B b) : a = b := congrArg (fun s : ByteArray => s.data.toList) h
theorem ba_ext {a b : ByteArray} (h : a.data.toList = b.data.toList) : a = b := by rw [← B_of a, ← B_of b, h]
theorem B_size (l : List UInt8) : (B l).size = l.length := rfl
theorem ba_size (s : ByteArray) : s.size = s.data.toList.length := rfl
def cutL : List UInt8 → List (List UInt8)
  | [] => [[]]
  | c :: t => if c = 47 then [] :: cutL t else match cutL t with
    | [] => [[c]]
    | h :: r => (c :: h) :: r
theorem cutL_ne (l : List UInt8) : cutL l ≠ [] := by
  cases l with
  | nil => simp [cutL]
  | cons c t => unfold cutL; split; · simp
                split <;> simp
def partsL (l : List UInt8) : List (List UInt8) := if l = [] then [] else cutL l
def parts (s : ByteArray) : List ByteArray := (partsL s.data.toList).map B
def joinL : List (List UInt8) → List UInt8
  | [] => []
  | [x] => x
  | x :: y :: r => x ++ 47 :: joinL (y :: r)
theorem cutL_head {c : UInt8} {t : List UInt8} (h : c ≠ 47) : ∃ h' r, cutL t = h' :: r ∧ cutL (c :: t) = (c :: h') :: r := by
  rcases ht : cutL t with _ | ⟨h', r⟩
  · exact absurd ht (cutL_ne t)
  · exact ⟨h', r, rfl, by simp [cutL, h, ht]⟩
theorem joinL_cutL (l : List UInt8) : joinL (cutL l) = l := by
  induction l with
  | nil => rfl
  | cons c t ih =>
    by_cases h : c = 47
    · subst h
      have : cutL (47 :: t) = [] :: cutL t := by simp [cutL]
      rw [this]
      rcases ht : cutL t with _ | ⟨h', r⟩
      · exact absurd ht (cutL_ne t)
      · rw [ht] at ih
        show [] ++ 47 :: joinL (h' :: r) = _
        rw [ih]; rfl
    · obtain ⟨h', r, h1, h2⟩ := cutL_head (t := t) h
      rw [h2]; rw [h1] at ih
      cases r with
      | nil => simp only [joinL] at ih ⊢; rw [ih]
      | cons y r => simp only [joinL] at ih ⊢; rw [← ih]; rfl
theorem cutL_no {p : List UInt8} (h : (47 : UInt8) ∉ p) : cutL p = [p] := by
  induction p with
  | nil => rfl
  | cons c t ih =>
    simp only [List.mem_cons, not_or] at h
    have := ih h.2
    simp [cutL, this, Ne.symm h.1]
theorem cutL_append {p : List UInt8} (h : (47 : UInt8) ∉ p) (t : List UInt8) : cutL (p ++ 47 :: t) = p :: cutL t := by
  induction p with
  | nil => simp [cutL]
  | cons c q ih =>
    simp only [List.mem_cons, not_or] at h
    have := ih h.2
    simp [cutL, this, Ne.symm h.1]
theorem cutL_joinL : ∀ (ps : List (List UInt8)), ps ≠ [] → (∀ p ∈ ps, (47 : UInt8) ∉ p) → cutL (joinL ps) = ps
  | [], h, _ => absurd rfl h
  | [x], _, h => cutL_no (h x (by simp))
  | x :: y :: r, _, h => by
    have ih := cutL_joinL (y :: r) (by simp) (fun p hp => h p (by simp [List.mem_cons.1 hp]))
    show cutL (x ++ 47 :: joinL (y :: r)) = _
    rw [cutL_append (h x (by simp)), ih]
theorem index_slash (l : List UInt8) : (Lib.index l [47] = -1 ∧ (47 : UInt8) ∉ l) ∨ ∃ p t, l = p ++ 47 :: t ∧ (47 : UInt8) ∉ p ∧ Lib.index l [47] = p.length := by
  induction l with
  | nil => exact .inl ⟨rfl, by simp⟩
  | cons c t ih =>
    by_cases h : c = 47
    · subst h
      exact .inr ⟨[], t, rfl, by simp, by simp [Lib.index, List.isPrefixOf]⟩
    · have hp : ([47] : List UInt8).isPrefixOf (c :: t) = false := by simp [List.isPrefixOf, Ne.symm h]
      rcases ih with ⟨h1, h2⟩ | ⟨p, t', h1, h2, h3⟩
      · exact .inl ⟨by simp [Lib.index, hp, h1], by simp [Ne.symm h, h2]⟩
      · refine .inr ⟨c :: p, t', by rw [h1]; rfl, by simp [Ne.symm h, h2], ?_⟩
        have h4 : ¬ ((p.length : Int) = -1) := by omega
        simp [Lib.index, hp, h3, h4]
theorem splitK_cut : ∀ (k : Nat) (l : List UInt8), l.count 47 ≤ k → Lib.splitK [47] 0 k l = cutL l
  | 0, l, h => by
    have : (47 : UInt8) ∉ l := List.count_eq_zero.1 (by omega)
    rw [cutL_no this]; rfl
  | k + 1, l, h => by
    unfold Lib.splitK
    rcases index_slash l with ⟨h1, h2⟩ | ⟨p, t, h1, h2, h3⟩
    · rw [h1, cutL_no h2]; rfl
    · have h4 : ¬ ((p.length : Int) == -1) = true := fun e => by have := beq_iff_eq.1 e; omega
      rw [h3, if_neg h4]
      subst h1
      have hc : t.count 47 ≤ k := by
        rw [List.count_append, List.count_cons_self] at h
        omega
      rw [cutL_append h2]
      have e1 : ((p.length : Int).toNat + 0) = p.length := by omega
      have e2 : ((p.length : Int).toNat + ([47] : List UInt8).length) = p.length + 1 := by simp
      rw [e1, e2, List.take_left']
      · congr 1
        rw [← List.drop_drop, List.drop_left']
        · exact splitK_cut k t hc
        · rfl
      · rfl
theorem splitK_slash (l : List UInt8) : Lib.splitK [47] 0 (Lib.count l [47]) l = cutL l := splitK_cut _ _ (by rw [Lib.count_one]; exact Nat.le_refl _)
theorem splitB_parts (s : ByteArray) : Lib.splitB ⟨#[47]⟩ 0 (Lib.countB s ⟨#[47]⟩) s = (cutL s.data.toList).map B := by
  have h := Lib.splitB_data ⟨#[47]⟩ 0 (Lib.countB s ⟨#[47]⟩) s
  have e : Lib.countB s ⟨#[47]⟩ = Lib.count s.data.toList [47] := rfl
  rw [e] at h ⊢
  have h2 : (Lib.splitB ⟨#[47]⟩ 0 (Lib.count s.data.toList [47]) s).map (·.data.toList) = cutL s.data.toList := h.trans (splitK_slash _)
  rw [← h2, List.map_map]
  exact (List.map_id'' (fun x => B_of x) _).symm
def isNameL (l : List UInt8) : Bool := decide (1 ≤ l.length) && decide (l.length ≤ 64) && (l != [46]) && (l != [46, 46]) && !(l.contains 0) && !(l.contains 47)
end Go.Proofs.YtbpfmlckddhgbaaGreatDoor
/- The words that the walks of this claim share: bytes as a kind, what a world keeps, cells read. -/
namespace Go.Proofs.YtbpfmlckddhgbaaGreatDoor
open Go Go.RowKit Go.Proofs.YtbpfmlckddhgbaaGreatDoorW.PrintWords
def bv (b : UInt8) : Value := .int .u8 (b.toNat : Int)
def Glob (w : World) : Prop := ∃ m, w.cell? ⟨0, 0, none⟩ = some (.int .i64 m)
theorem Glob.below {w w1 : World} (h : Glob w) (hb : Below w.heap.size w w1) : Glob w1 := by
  obtain ⟨m, hm⟩ := h
  exact ⟨m, pw_cell_below hb hm⟩
theorem Glob.lt {w : World} (h : Glob w) : 0 < w.heap.size := by
  obtain ⟨m, hm⟩ := h
  exact World.block_lt_of_cell? w _ hm
theorem quiet_more {P : Program} {f : FuncId} {args : Array Value} {w : World} {a n : Nat} {v : Value}
    (h : Calls P f args (w.drewN (a + n)) fun e w' => e = .returned v ∧ w' = w.drewN (a + n)) :
    Calls P f args (w.drewN (a + n)) fun e w'' => e = .returned v ∧ ∃ m, w'' = w.drewN (a + m) :=
  h.mono fun _ _ ⟨he, hm⟩ => ⟨he, n, hm⟩
theorem info9 : (Tryz.prog.info? 9).map (fun i => (i.zero, i.size, i.bytes)) = some (some (.string ⟨#[]⟩), 1, 16) := by kernel_rfl
theorem info5 : (Tryz.prog.info? 5).map (fun i => (i.zero, i.size, i.bytes)) = some (some (.int .u8 0), 1, 1) := by kernel_rfl
theorem C_at {α : Type} {enc : α → Value} {h1 : ∀ x, (enc x).oneCell' = true} {w : World} {A : Option Addr} {n : Nat} {xs : List α} (h : (Kd.scalar enc h1).C w A n xs) (z : α) (k : Nat) (hk : k < n) :
    ∃ ad, A = some ad ∧ w.cell? (ad.add k) = some (enc (xs.getD k z)) := by
  obtain ⟨ad, c, h1, h2, h3, h4⟩ := Kd.C_get h z (k : Int) (by omega) (by omega)
  refine ⟨ad, h1, ?_⟩
  have h5 : c = [enc (xs.getD k z)] := by simpa [Kd.scalar] using h3
  have := h4 0 (enc (xs.getD k z)) (by rw [h5]; rfl)
  simpa [Kd.scalar] using this
section
variable {ops : Array Oper} {rest : List Oper} {o : Oper} {a : Act} {Q : Exit → Act → World → Prop}
theorem app_str {w0 W : World} {base : Nat} (hgd : o.guard = none) (s x : Operand) (ho : o.op = .call { callee := .builtin .append, args := #[s, x], argTypes := #[66, 66] })
    (v : Value) (xs : List ByteArray) (p : ByteArray) (hs : a.eval s = v) (hx : a.eval x = .slice (some ⟨W.heap.size, 0, none⟩) 1 1)
    (HO : Kd.R Kd.string 9 W base (fun _ => True) v xs) (HB : Below base w0 W) (hbase : base ≤ W.heap.size) (hl : xs.length < 8796093022208)
    (h : ∀ v1 w1, Kd.R Kd.string 9 w1 base (fun _ => True) v1 (xs ++ [p]) → Below base w0 w1 → base ≤ w1.heap.size → wpList Tryz.prog ops Q rest (a.put o.dst v1) w1) :
    wpList Tryz.prog ops Q (o :: rest) a (W.alloc (.cells #[.string p] 9)) :=
  Kd.R_append Kd.string (w0 := w0) base hgd s x 66 9 (.string ⟨#[]⟩) 16 ho Tryz.underlying66 info9 rfl (by decide) (by omega) v xs p [.string p] (fun _ => True) (fun _ => False) hs hx rfl (fun _ hk => hk.elim)
    (fun _ _ => trivial) HO HB hbase (by omega) fun v1 w1 h1 h2 h3 _ => h v1 w1 h1 h2 (Nat.le_trans hbase h3.size)
end
end Go.Proofs.YtbpfmlckddhgbaaGreatDoor
/- strings.IndexAny, strings.ContainsAny at the two signs 0 and '/', for every text of at most 64 bytes. -/
namespace Go.Proofs.YtbpfmlckddhgbaaGreatDoor
open Go Go.RowKit Go.Proofs.YtbpfmlckddhgbaaGreatDoorW.PrintWords
def nulSlash : ByteArray := ⟨#[0, 47]⟩
theorem decode_cover (s : ByteArray) (pos : Nat) (h : pos < s.size) :
    ((s[pos]'h).toNat < 128 ∧ Utf8.decode s pos = ((s[pos]'h).toNat, 1)) ∨
    (128 ≤ (Utf8.decode s pos).1 ∧ 1 ≤ (Utf8.decode s pos).2 ∧ ∀ j, pos ≤ j → j < pos + (Utf8.decode s pos).2 → ∃ hj : j < s.size, 128 ≤ (s[j]'hj).toNat) := by
  by_cases hb : (s[pos]'h).toNat < 128
  · exact .inl ⟨hb, decode_ascii s pos h hb⟩
  · refine .inr ⟨(decode_high s pos h (by omega)).1, (decode_high s pos h (by omega)).2, ?_⟩
    have hg : ∀ k, (hk : pos + k < s.size) → s.get! (pos + k) = s[pos + k]'hk := by
      intro k hk
      simp [ByteArray.get!, getElem!_pos, hk]
      rfl
    have h0 := get_at s pos h
    have hn : ¬ (s[pos]'h).toNat < 128 := hb
    intro j hj1 hj2
    have key : ∀ k, pos + k < s.size ∧ (s.get! (pos + k)).toNat / 64 = 2 → ∃ hj : pos + k < s.size, 128 ≤ (s[pos + k]'hj).toNat := by
      rintro k ⟨h1, h2⟩
      rw [hg k h1] at h2
      exact ⟨h1, by omega⟩
    have one : j = pos → ∃ hj : j < s.size, 128 ≤ (s[j]'hj).toNat := by
      rintro rfl
      exact ⟨h, by omega⟩
    simp only [Utf8.decode, h0, hn, if_false] at hj2
    repeat' split at hj2
    all_goals simp only [Bool.and_eq_true, decide_eq_true_eq, beq_iff_eq] at *
    all_goals try (exact one (by omega))
    · rcases (show j = pos ∨ j = pos + 1 from by omega) with hj | rfl
      · exact one hj
      · exact key 1 (by omega)
    · rcases (show j = pos ∨ j = pos + 1 ∨ j = pos + 2 from by omega) with hj | rfl | rfl
      · exact one hj
      · exact key 1 (by omega)
      · exact key 2 (by omega)
    · rcases (show j = pos ∨ j = pos + 1 ∨ j = pos + 2 ∨ j = pos + 3 from by omega) with hj | rfl | rfl | rfl
      · exact one hj
      · exact key 1 (by omega)
      · exact key 2 (by omega)
      · exact key 3 (by omega)
theorem encode_two (r : Int) (h : 128 ≤ r) (h2 : r < 2048) : ∃ x y : UInt8, Utf8.encode r = ⟨#[x, y]⟩ ∧ 128 ≤ y.toNat := by
  have hv : Utf8.valid r = true := by simp [Utf8.valid]; omega
  have hn : r.toNat < 2048 := by omega
  have hm : ¬ r.toNat < 128 := by omega
  refine ⟨UInt8.ofNat (0xC0 + r.toNat / 64), UInt8.ofNat (0x80 + r.toNat % 64), ?_, ?_⟩
  · simp [Utf8.encode, hv, hn, hm]
  · simp
    omega
theorem encode_more (r : Int) (h2 : ¬ r < 2048) : 3 ≤ (Utf8.encode r).size ∧ (Utf8.encode r).size ≤ 4 := by
  unfold Utf8.encode
  dsimp only
  repeat' split
  all_goals first
    | exact ⟨Nat.le_refl 3, Nat.le_succ 3⟩
    | exact ⟨Nat.le_succ 3, Nat.le_refl 4⟩
    | (exfalso; omega)
    | (exfalso; simp only [Utf8.runeError] at *; omega)
set_option maxHeartbeats 1000000 in
set_option maxRecDepth 100000 in
theorem indexRune_high (r : Int) (w : World) (h : 128 ≤ r) (h2 : r ≤ 2147483647) :
    Calls Tryz.prog 268 #[.string nulSlash, .int .i32 r] w fun e w' => e = .returned (.int .i64 (-1)) ∧ Below w.heap.size w w' := by
  have e1 : decide (r < 128) = false := decide_eq_false (by omega)
  have e0 : decide (0 ≤ r) = true := decide_eq_true (by omega)
  unfold nulSlash
  by_cases hE : r = 65533
  · subst hE
    go_enter Tryz.func268, Tryz.ntmps268
    go_wp2_with fail
    refine wp_loop_rounds 3 ?_
    have n0 := fun (W : World) ty => run_next_ascii (P := Tryz.prog) W ⟨#[0, 47]⟩ 0 ty (by decide) (by decide)
    have n1 := fun (W : World) ty => run_next_ascii (P := Tryz.prog) W ⟨#[0, 47]⟩ 1 ty (by decide) (by decide)
    have n2 := fun (W : World) ty => run_next_end (P := Tryz.prog) W ⟨#[0, 47]⟩ 2 ty (by decide)
    rw [rounds_succ]
    go_wp2
    rw [rounds_succ]
    go_wp2
    rw [rounds_succ]
    go_wp2
    go_ret
    exact ⟨rfl, (Below.refl _ _).alloc (Nat.le_refl _) _⟩
  · have e2 : (r == 65533) = false := beq_eq_false_iff_ne.2 hE
    clear hE
    cases hv : Lib.validRune r with
    | false =>
      go_enter Tryz.func268, Tryz.ntmps268
      go_wp2_with (go_at_call 289; refine (Tryz.utf8_ValidRune _ _).mono ?_; rintro e w' ⟨rfl, rfl⟩; rw [hv])
      go_ret
      exact ⟨rfl, Below.refl _ _⟩
    | true =>
      go_enter Tryz.func268, Tryz.ntmps268
      go_wp2_with (go_at_call 289; refine (Tryz.utf8_ValidRune _ _).mono ?_; rintro e w' ⟨rfl, rfl⟩; rw [hv])
      by_cases hs : r < 2048
      · obtain ⟨x, y, he, hy⟩ := encode_two r h hs
        have hne : ((((⟨#[0, 47]⟩ : ByteArray)[1]'(by decide)).toNat : Int) != (((⟨#[x, y]⟩ : ByteArray)[1]'(by show 1 < 2; omega)).toNat : Int)) = true := by
          rw [bne_iff_ne]
          show (47 : Int) ≠ (y.toNat : Int)
          omega
        go_step3
        go_wp2_with fail
        refine wp_loop_rounds 1 ?_
        rw [rounds_succ]
        go_wp2_with fail
        go_step3
        go_wp2_with fail
        go_quiet (fail)
        go_wp2_with fail
        go_quiet ((go_at_call 288; exact quiet_more (Tryz.strings_IndexByte _ _ _)))
        go_wp2_with fail
        repeat (first | rw [Exit.noGoto_ret] | simp only [Exit.inBlock, Exit.then])
        go_ret
        exact ⟨rfl, pw_below_drewN (Below.refl _ _) _⟩
      · obtain ⟨h3, h4⟩ := encode_more r hs
        have hw : wrap64 (((Utf8.encode r).size : Int) - 1) = ((Utf8.encode r).size : Int) - 1 := IntWalk.wrap64_in _ (by omega)
        have hd : decide (((Utf8.encode r).size : Int) - 1 < 2) = false := decide_eq_false (by omega)
        go_step3
        go_wp2_with fail
        refine wp_loop_rounds 1 ?_
        rw [rounds_succ]
        go_wp2_with fail
        rw [Exit.noGoto_ret]
        go_ret
        exact ⟨rfl, Below.refl _ _⟩
def NoSign (s : ByteArray) (i : Nat) : Prop := ∀ j, (hj : j < s.size) → j < i → s[j]'hj ≠ 0 ∧ s[j]'hj ≠ 47
def hasSign (s : ByteArray) : Bool := s.data.toList.contains 0 || s.data.toList.contains 47
theorem hasSign_no {s : ByteArray} (h : NoSign s s.size) : hasSign s = false := by
  have : ∀ b ∈ s.data.toList, b ≠ 0 ∧ b ≠ 47 := by
    intro b hb
    obtain ⟨j, hj, rfl⟩ := List.mem_iff_getElem.1 hb
    exact h j hj hj
  simp only [hasSign, Bool.or_eq_false_iff, List.contains_eq_mem, decide_eq_false_iff_not]
  exact ⟨fun h0 => (this 0 h0).1 rfl, fun h0 => (this 47 h0).2 rfl⟩
theorem hasSign_yes {s : ByteArray} {i : Nat} (hi : i < s.size) (h : s[i]'hi = 0 ∨ s[i]'hi = 47) : hasSign s = true := by
  have hm : s[i]'hi ∈ s.data.toList := List.getElem_mem (l := s.data.toList) hi
  simp only [hasSign, Bool.or_eq_true, List.contains_eq_mem, decide_eq_true_eq]
  rcases h with h | h
  · exact .inl (h ▸ hm)
  · exact .inr (h ▸ hm)
def AnyPost (w : World) (s : ByteArray) (e : Ending) (w' : World) : Prop := ∃ n : Int, e = .returned (.int .i64 n) ∧ decide (0 ≤ n) = hasSign s ∧ Below w.heap.size w w'
set_option maxHeartbeats 1000000 in
set_option maxRecDepth 100000 in
theorem indexAny_short (s : ByteArray) (w : World) (h8 : s.size ≤ 8) : Calls Tryz.prog 253 #[.string s, .string nulSlash] w (AnyPost w s) := by
  have h8z : decide ((8 : Int) < (s.size : Int)) = false := decide_eq_false (by omega)
  have hemp : nulSlash.toList.isEmpty = false := by rw [Lib.toList_data]; rfl
  have hn1 : ((nulSlash.size : Int) == 1) = false := rfl
  go_enter Tryz.func253, Tryz.ntmps253
  go_wp2_with (go_at_call 269; refine (Tryz.strings_shouldUseASCIISet _ _).mono ?_; rintro e w' ⟨rfl, rfl⟩; rw [h8z])
  rename World => w
  go_loopg [9, 10] s.size (fun g _ _ wx => ∃ i : Nat, i + g = s.size ∧ Aside0 (wx.heap[w.heap.size]? = some (.stringIter s i)) ∧ Aside0 (Below w.heap.size w wx) ∧ Aside0 (NoSign s i))
  case atStart => exact ⟨0, by omega, ⟨World.iter_heap _ _ _⟩, ⟨(Below.refl _ _).alloc (Nat.le_refl _) _⟩, ⟨fun j _ hj => absurd hj (by omega)⟩⟩
  case round =>
    obtain ⟨i, hig, HI, HB, HN⟩ := hrel
    by_cases hi : i < s.size
    · have hnx := fun ty => Lib.run_next_any_at (P := Tryz.prog) wr w.heap.size s i ty HI.out hi
      have HBi : ∀ p, Below w.heap.size w (wr.iterAt w.heap.size s p) := fun p => Lib.below_iterAt HB.out (Nat.le_refl _) s p
      have HBi := Aside0.mk HBi
      have HIi : ∀ p, (wr.iterAt w.heap.size s p).heap[w.heap.size]? = some (.stringIter s p) := fun p => Lib.iterAt_heap wr w.heap.size s i p HI.out
      have HIi := Aside0.mk HIi
      clear HI HB
      rcases decode_cover s i hi with ⟨hlt, hd⟩ | ⟨hge, hw1, hall⟩
      · rw [hd] at hnx
        obtain ⟨x, hx⟩ : ∃ x : UInt8, s[i]'hi = x := ⟨_, rfl⟩
        have Hx := Aside0.mk hx
        rw [hx] at hnx hlt
        clear hd hx
        have hcon := Lib.contains_iff_indexByte [0, 47] x
        have hback : ((x.toNat : Int)).toNat.toUInt8 = x := by simp
        by_cases hin : x = 0 ∨ x = 47
        · have hge : (0 : Int) ≤ Lib.indexByte nulSlash.data.toList x := of_decide_eq_true (by show decide (0 ≤ Lib.indexByte [0, 47] x) = true; rw [← hcon]; rcases hin with rfl | rfl <;> rfl)
          have Hin := Aside0.mk hin
          clear hcon hin
          go_wp2_with (go_at_call 268; refine (Tryz.strings_IndexRune_ascii _ _ _ (by omega) (by omega)).mono ?_; rintro e w' ⟨rfl, hw⟩; rw [hw, hback])
          go_ret
          refine ⟨i, rfl, ?_, HBi.out _⟩
          rw [hasSign_yes hi (by rw [Hx.out]; exact Hin.out)]
          exact decide_eq_true (by omega)
        · have hlt0 : ¬ (0 : Int) ≤ Lib.indexByte nulSlash.data.toList x := of_decide_eq_false (by
            show decide (0 ≤ Lib.indexByte [0, 47] x) = false
            rw [← hcon]
            simp only [not_or] at hin
            simp [hin.1, hin.2])
          have Hin := Aside0.mk hin
          clear hcon hin
          go_wp2_with (go_at_call 268; refine (Tryz.strings_IndexRune_ascii _ _ _ (by omega) (by omega)).mono ?_; rintro e w' ⟨rfl, hw⟩; rw [hw, hback])
          go_roundg (s.size - (i + 1))
          case measure => omega
          case rel =>
            refine ⟨i + 1, by omega, ⟨HIi.out _⟩, ⟨HBi.out _⟩, ⟨fun j hj hji => ?_⟩⟩
            rcases Nat.lt_or_ge j i with h | h
            · exact HN.out j hj h
            · obtain rfl : j = i := by omega
              rw [Hx.out]
              exact not_or.1 Hin.out
      · obtain ⟨r, hr⟩ : ∃ r : Nat, (Utf8.decode s i).1 = r := ⟨_, rfl⟩
        obtain ⟨n, hn⟩ : ∃ n : Nat, (Utf8.decode s i).2 = n := ⟨_, rfl⟩
        have hle := decode_le s i
        rw [hr] at hle hge
        rw [hn] at hw1
        simp only [hr, hn] at hnx
        have hns : i + n ≤ s.size := by
          obtain ⟨h1, _⟩ := hall (i + n - 1) (by omega) (by omega)
          omega
        have Hall := Aside0.mk hall
        have Hn := Aside0.mk hn
        clear hall hr hn
        go_wp2_with (go_at_call 268; refine (indexRune_high _ _ (by omega) (by omega)).mono ?_; rintro e w' ⟨rfl, hb⟩; have HB2 := Aside0.mk hb; clear hb)
        go_roundg (s.size - (i + n))
        case measure => omega
        case rel =>
          have hsz : w.heap.size < (wr.iterAt w.heap.size s (i + n)).heap.size := (Array.getElem?_eq_some_iff.1 (HIi.out (i + n))).1
          refine ⟨i + n, by omega, ⟨(HB2.out.block _ hsz).trans (HIi.out _)⟩, ⟨below_then (HBi.out _) (Nat.le_of_lt hsz) HB2.out⟩, ⟨fun j hj hji => ?_⟩⟩
          rcases Nat.lt_or_ge j i with h | h
          · exact HN.out j hj h
          · obtain ⟨h1, h2⟩ := Hall.out j h (by rw [Hn.out]; exact hji)
            constructor
            · intro e; rw [e] at h2; exact absurd h2 (by decide)
            · intro e; rw [e] at h2; exact absurd h2 (by decide)
    · obtain rfl : i = s.size := by omega
      have hnx := fun ty => Lib.run_next_end_at (P := Tryz.prog) wr w.heap.size s s.size ty HI.out hi
      go_wp2
      go_ret
      exact ⟨-1, rfl, by rw [hasSign_no HN.out]; rfl, HB.out⟩
theorem indexAny_dec : ∀ l : List UInt8, decide (0 ≤ Lib.indexAny l [0, 47]) = (l.contains 0 || l.contains 47)
  | [] => rfl
  | b :: l => by
    have ih := indexAny_dec l
    unfold Lib.indexAny
    have hge := Lib.indexAny_ge [0, 47] l
    by_cases h : b = 0 ∨ b = 47
    · have hc : ([0, 47] : List UInt8).contains b = true := by rcases h with rfl | rfl <;> rfl
      rw [if_pos hc]
      rcases h with rfl | rfl <;> simp
    · simp only [not_or] at h
      have hc : ([0, 47] : List UInt8).contains b = false := by simp [h.1, h.2]
      rw [if_neg (by rw [hc]; simp)]
      have e1 : (b :: l).contains 0 = l.contains 0 := by simp [Ne.symm h.1]
      have e2 : (b :: l).contains 47 = l.contains 47 := by simp [Ne.symm h.2]
      rw [e1, e2, ← ih]
      split
      · rename_i he
        rw [beq_iff_eq] at he
        rw [he]
      · rename_i he
        rw [beq_iff_eq] at he
        rw [Bool.eq_iff_iff]
        simp only [decide_eq_true_eq]
        omega
theorem indexAny_any (s : ByteArray) (w : World) (hs : s.size < 4294967281) : Calls Tryz.prog 253 #[.string s, .string nulSlash] w (AnyPost w s) := by
  by_cases h8 : s.size ≤ 8
  · exact indexAny_short s w h8
  · have hv := (zero_of_info (P := Tryz.prog) (t := 353) (v := .agg (Array.replicate 256 (.bool false))) (n := 256) (by kernel_rfl)).1
    refine (Tryz.strings_IndexAny_long hv s nulSlash w (by decide) (by omega) hs (by decide) ?_).mono ?_
    · intro j b hb
      match j, hb with
      | 0, hb => cases hb; decide
      | 1, hb => cases hb; decide
    · rintro e w' ⟨rfl, rfl⟩
      exact ⟨_, rfl, indexAny_dec _, ((Below.refl _ _).alloc (Nat.le_refl _) _).alloc (by simp) _⟩
theorem containsAny_calls (s : ByteArray) (w : World) (hs : s.size < 4294967281) :
    Calls Tryz.prog 217 #[.string s, .string ⟨#[0, 47]⟩] w fun e w' => e = .returned (.bool (hasSign s)) ∧ Below w.heap.size w w' := by
  go_enter Tryz.func217, Tryz.ntmps217
  go_wp2_with fail
  refine (indexAny_any s w hs).mono ?_
  rintro e w' ⟨n, rfl, hn, hb⟩
  have HB := Aside0.mk hb
  clear hb
  cases hd : decide (0 ≤ n) with
  | true =>
    go_wp2_with fail
    go_ret
    exact ⟨by rw [← hn]; simp [hd], HB.out⟩
  | false =>
    go_wp2_with fail
    go_ret
    exact ⟨by rw [← hn]; simp [hd], HB.out⟩
end Go.Proofs.YtbpfmlckddhgbaaGreatDoor
/- The walks of package path. -/
namespace Go.Proofs.YtbpfmlckddhgbaaGreatDoor
open Go Go.RowKit Go.Proofs.YtbpfmlckddhgbaaGreatDoorW.PrintWords
theorem toList_empty (s : ByteArray) : s.toList.isEmpty = s.data.toList.isEmpty := by rw [Lib.toList_data]
theorem R_laid {α : Type} {enc : α → Value} {h1 : ∀ x, (enc x).oneCell' = true} {e : Nat} (w : World) (xs : List α) (hx : xs.length ≤ maxLen) :
    (Kd.scalar enc h1).R e (w.alloc (.cells (xs.map enc).toArray e)) w.heap.size (fun _ => True) (.slice (some ⟨w.heap.size, 0, none⟩) xs.length xs.length) xs := by
  refine Kd.R_of_own ⟨by simp [encs], .inr ⟨w.heap.size, xs.length, (xs.map enc).toArray, rfl, Nat.le_refl _, heap_alloc_new w _, Nat.le_refl _, hx, by simp, ?_⟩⟩ (fun _ _ => trivial)
  rw [List.take_of_length_le (by simp)]; rfl
def PartsPost (w : World) (s : ByteArray) (e : Ending) (w' : World) : Prop :=
  ∃ v, e = .returned v ∧ Kd.R Kd.string 9 w' w.heap.size (fun _ => True) v (parts s) ∧ Below w.heap.size w w'
set_option maxHeartbeats 400000 in
theorem parts_calls (s : ByteArray) (w : World) (hG : Glob w) (hs : s.size < 4294967281) : Calls Tryz.prog 106 #[.string s] w (PartsPost w s) := by
  obtain ⟨m, hm⟩ := hG
  have HM := Lib.hid hm; clear hm
  cases he : s.toList.isEmpty with
  | true =>
    go_enter Tryz.func106, Tryz.ntmps106
    go_wp2_with fail
    go_ret
    refine ⟨_, rfl, ?_, Below.refl _ _⟩
    have h0 : s.data.toList = [] := by rw [toList_empty] at he; simpa using he
    simp only [parts, partsL, h0, if_true, List.map_nil]
    exact Kd.R_nil _ _ _ _ _
  | false =>
    go_enter Tryz.func106, Tryz.ntmps106
    go_wp2_with fail
    refine (Tryz.strings_Split s ⟨#[47]⟩ m _ hs HM.out (by decide)).mono ?_
    rintro e w' ⟨rfl, rfl⟩
    go_wp2_with fail
    go_ret
    have h0 : s.data.toList ≠ [] := by rw [toList_empty] at he; intro h; simp [h] at he
    have hp : parts s = Lib.splitB ⟨#[47]⟩ 0 (Lib.countB s ⟨#[47]⟩) s := by rw [splitB_parts, parts, partsL, if_neg h0]
    have hl : Lib.countB s ⟨#[47]⟩ + 1 = (parts s).length := by rw [hp, Lib.splitB_all _ (by decide) 0 _ s rfl]
    refine ⟨_, rfl, ?_, (Below.refl _ _).alloc (Nat.le_refl _) _⟩
    rw [hl, ← hp]
    refine R_laid w (parts s) ?_
    rw [← hl]
    have := Lib.countB_le ⟨#[47]⟩ (by decide) s.size s (Nat.le_refl _)
    unfold maxLen
    omega
def isName (s : ByteArray) : Bool := isNameL s.data.toList
theorem isName_eq (s : ByteArray) : isName s = (decide ((1 : Int) ≤ (s.size : Int)) && decide ((s.size : Int) ≤ 64) && (s.toList != [46]) && (s.toList != [46, 46]) && !hasSign s) := by
  have e1 : decide ((1 : Int) ≤ (s.size : Int)) = decide (1 ≤ s.data.toList.length) := by rw [ba_size]; exact decide_eq_decide.2 (by omega)
  have e2 : decide ((s.size : Int) ≤ 64) = decide (s.data.toList.length ≤ 64) := by rw [ba_size]; exact decide_eq_decide.2 (by omega)
  rw [e1, e2, Lib.toList_data, isName, isNameL, hasSign, Bool.not_or, ← Bool.and_assoc]
theorem isName_calls (s : ByteArray) (w : World) : Calls Tryz.prog 173 #[.string s] w fun e w' => e = .returned (.bool (isName s)) ∧ Below w.heap.size w w' := by
  cases h1 : decide ((1 : Int) ≤ (s.size : Int)) with
  | false =>
    go_enter Tryz.func173, Tryz.ntmps173
    go_wp2_with fail
    go_ret
    exact ⟨by rw [isName_eq, h1]; rfl, Below.refl _ _⟩
  | true =>
  cases h2 : decide ((s.size : Int) ≤ 64) with
  | false =>
    go_enter Tryz.func173, Tryz.ntmps173
    go_wp2_with fail
    go_ret
    exact ⟨by rw [isName_eq, h1, h2]; rfl, Below.refl _ _⟩
  | true =>
  cases h3 : s.toList != [46] with
  | false =>
    have h3b : (s.toList == [46]) = true := beq_iff_eq.2 (bne_eq_false_iff_eq.1 h3)
    go_enter Tryz.func173, Tryz.ntmps173
    go_wp2_with fail
    go_ret
    exact ⟨by rw [isName_eq, h1, h2, h3]; rfl, Below.refl _ _⟩
  | true =>
  have h3b : (s.toList == [46]) = false := beq_eq_false_iff_ne.2 (bne_iff_ne.1 h3)
  cases h4 : s.toList != [46, 46] with
  | false =>
    have h4b : (s.toList == [46, 46]) = true := beq_iff_eq.2 (bne_eq_false_iff_eq.1 h4)
    go_enter Tryz.func173, Tryz.ntmps173
    go_wp2_with fail
    go_ret
    exact ⟨by rw [isName_eq, h1, h2, h3, h4]; rfl, Below.refl _ _⟩
  | true =>
    have h4b : (s.toList == [46, 46]) = false := beq_eq_false_iff_ne.2 (bne_iff_ne.1 h4)
    have hs : s.size ≤ 64 := by have := of_decide_eq_true h2; omega
    go_enter Tryz.func173, Tryz.ntmps173
    go_wp2_with fail
    refine (containsAny_calls s w (by omega)).mono ?_
    rintro e w' ⟨rfl, hb⟩
    have HB := Aside0.mk hb
    clear hb
    have hnot : ∀ (x : Bool) (w : World), (Op.unary .not (.bool x)).run Tryz.prog w = .ok (.bool (!x)) w := fun _ _ => rfl
    go_wp2_with fail
    go_ret
    exact ⟨by rw [isName_eq, h1, h2, h3, h4]; rfl, HB.out⟩
def cleanRow : List ByteArray → List ByteArray → Except Int (List ByteArray)
  | [], row => .ok row
  | p :: ps, row =>
    if p.toList = [] ∨ p.toList = [46] then cleanRow ps row
    else if p.toList = [46, 46] then (if row = [] then .error 32 else cleanRow ps row.dropLast)
    else if isName p then cleanRow ps (row ++ [p]) else .error 31
def joinB (row : List ByteArray) : ByteArray := B (Lib.join (row.map (·.data.toList)) [47])
def clean (s : ByteArray) : ByteArray × Int :=
  if 4096 < s.size then (⟨#[]⟩, 2) else match cleanRow (parts s) [] with
  | .error e => (⟨#[]⟩, e)
  | .ok row => if 32 < row.length then (⟨#[]⟩, 33) else (joinB row, 0)
theorem join_eq : ∀ l : List (List UInt8), Lib.join l [47] = joinL l
  | [] => rfl
  | [x] => Lib.join_one x [47]
  | x :: y :: r => by
    have ih := join_eq (y :: r)
    rw [Lib.join_cons] at ih ⊢
    show x ++ Lib.joinTail [47] (y :: r) = x ++ 47 :: joinL (y :: r)
    rw [← ih]
    simp [Lib.joinTail]
theorem joinL_len : ∀ (l : List (List UInt8)) (n : Nat), (∀ x ∈ l, x.length ≤ n) → (joinL l).length ≤ l.length * (n + 1)
  | [], n, _ => by simp [joinL]
  | [x], n, h => by have := h x (by simp); simp [joinL]; omega
  | x :: y :: r, n, h => by
    have ih := joinL_len (y :: r) n (fun z hz => h z (by simp [List.mem_cons.1 hz]))
    have := h x (by simp)
    have e : (x :: y :: r).length * (n + 1) = (y :: r).length * (n + 1) + (n + 1) := by rw [List.length_cons, Nat.add_mul, Nat.one_mul]
    rw [e]
    simp only [joinL, List.length_append, List.length_cons] at ih ⊢
    omega
theorem join_len (l : List (List UInt8)) (n : Nat) (h : ∀ x ∈ l, x.length ≤ n) : (Lib.join l [47]).length ≤ l.length * (n + 1) := by rw [join_eq]; exact joinL_len l n h
theorem isName_len {s : ByteArray} (h : isName s = true) : s.data.toList.length ≤ 64 := by
  simp only [isName, isNameL, Bool.and_eq_true, decide_eq_true_eq] at h
  exact h.1.1.1.1.2
theorem cleanRow_names : ∀ (ps row r : List ByteArray), cleanRow ps row = .ok r → (∀ q ∈ row, isName q = true) → ∀ q ∈ r, isName q = true
  | [], row, r, h, hr => by
    simp only [cleanRow] at h
    injection h with h
    exact h ▸ hr
  | p :: ps, row, r, h, hr => by
    unfold cleanRow at h
    split at h
    · exact cleanRow_names ps row r h hr
    · split at h
      · split at h
        · cases h
        · exact cleanRow_names ps _ r h (fun q hq => hr q (List.dropLast_subset _ hq))
      · split at h
        · rename_i hn
          refine cleanRow_names ps _ r h (fun q hq => ?_)
          rcases List.mem_append.1 hq with hq | hq
          · exact hr q hq
          · rw [List.mem_singleton.1 hq]; exact hn
        · cases h
theorem join_calls {w : World} {base : Nat} {v : Value} {row : List ByteArray} (h : Kd.R Kd.string 9 w base (fun _ => True) v row) (hl : (Lib.join (row.map (·.data.toList)) [47]).length ≤ 140737488355328) (hr : row.length ≤ 140737488355328) :
    ∃ A c, v = .slice A row.length c ∧ Calls Tryz.prog 174 #[.slice A row.length c, .string ⟨#[47]⟩] w fun e w' => e = .returned (.string (joinB row)) ∧ Below w.heap.size w w' := by
  obtain ⟨A, c, rfl, hlc, hC⟩ := Kd.R_reads h
  refine ⟨A, c, rfl, ?_⟩
  rcases row with _ | ⟨x, row⟩
  · refine (Tryz.strings_Join_none A c ⟨#[47]⟩ w).mono ?_
    rintro e w' ⟨rfl, rfl⟩
    exact ⟨rfl, Below.refl _ _⟩
  · rcases (Kd.own_of_R h).2 with ⟨h1, _⟩ | ⟨g, cap, cur, h1, _, hg, _, _, hcs, htake⟩
    · cases h1
    · cases h1
      refine (Tryz.strings_Join g 0 c (x :: row) ⟨#[47]⟩ w ?_ (Array.getElem?_eq_some_iff.1 hg).1 hr hlc hl).mono ?_
      · intro j y hj
        rw [cell_of_row w g _ cur 9 (0, 0) hg, Nat.zero_add]
        have h2 : (encs Value.string (x :: row))[j]? = some (.string y) := by
          unfold encs
          rw [List.getElem?_map, hj]; rfl
        rw [← htake, List.getElem?_take] at h2
        split at h2
        · simpa using h2
        · cases h2
      · rintro e w' ⟨rfl, hb⟩
        exact ⟨rfl, hb⟩
theorem cutL_len (l : List UInt8) : (cutL l).length ≤ l.length + 1 := by
  induction l with
  | nil => simp [cutL]
  | cons c t ih =>
    unfold cutL
    split
    · simpa using ih
    · split
      · simp
      · rename_i h
        rw [h] at ih
        simp at ih ⊢
        omega
theorem parts_len (s : ByteArray) {n : Nat} (h : s.size ≤ n) : (parts s).length ≤ n + 1 := by
  have := cutL_len s.data.toList
  rw [ba_size] at h
  unfold parts partsL
  split
  · simp
  · simp only [List.length_map]
    omega
set_option maxHeartbeats 1000000 in
theorem clean_calls (s : ByteArray) (w : World) (hG : Glob w) : Calls Tryz.prog 103 #[.string s] w fun e w' => e = .returned (.tuple #[.string (clean s).1, .int .i64 (clean s).2]) ∧ Below w.heap.size w w' := by
  cases hs : decide ((4096 : Int) < (s.size : Int)) with
  | true =>
    go_enter Tryz.func103, Tryz.ntmps103
    go_wp2_with fail
    go_ret2
    have : clean s = (⟨#[]⟩, 2) := by unfold clean; rw [if_pos (by have := of_decide_eq_true hs; omega)]
    exact ⟨by rw [this]; rfl, Below.refl _ _⟩
  | false =>
    have hsz : s.size ≤ 4096 := by have := of_decide_eq_false hs; omega
    go_enter Tryz.func103, Tryz.ntmps103
    go_wp2_with fail
    refine (parts_calls s w hG (by omega)).mono ?_
    rintro e w1 ⟨v, rfl, hR, hb⟩
    obtain ⟨A, c, rfl, hlc, hC⟩ := Kd.R_reads hR
    have HBw := Aside0.mk hb
    have HC := Aside0.mk hC
    have hpl : (parts s).length ≤ 4097 := parts_len s hsz
    clear hC hR hb
    obtain ⟨ps, hps⟩ : ∃ ps, parts s = ps := ⟨_, rfl⟩
    have Hps := Aside0.mk hps
    rw [hps] at HC hpl hlc
    rw [hps]
    clear hps
    have hG1 := Aside0.mk (hG.below HBw.out)
    clear hG
    go_wp2_with fail
    go_loopg [4, 13] (ps.length) (fun g v i wr => ∃ (k : Nat) (row : List ByteArray), k + g = ps.length ∧ i = .int .i64 k ∧ Aside0 (cleanRow (ps.drop k) row = cleanRow ps []) ∧ Aside0 (row.length ≤ k) ∧ Aside0 (Kd.R Kd.string 9 wr w1.heap.size (fun _ => True) v row) ∧ Aside0 (Below w1.heap.size w1 wr))
    case atStart => exact ⟨0, [], by omega, rfl, ⟨by simp⟩, ⟨Nat.le_refl _⟩, ⟨Kd.R_nil _ _ _ _ _⟩, ⟨Below.refl _ _⟩⟩
    case round =>
      obtain ⟨k, row, hk, rfl, HR, HL, HO, HB⟩ := hrel
      by_cases hlt : k < ps.length
      · obtain ⟨ad, rfl, hcell⟩ := C_at (Kd.C_below HC.out HB.out) ByteArray.empty k hlt
        obtain ⟨p, hp⟩ : ∃ p, ps.getD k ByteArray.empty = p := ⟨_, rfl⟩
        have hdr : ps.drop k = p :: ps.drop (k + 1) := by
          rw [List.drop_eq_getElem_cons hlt, ← hp, List.getD_eq_getElem?_getD, List.getElem?_eq_getElem hlt]; rfl
        rw [hp] at hcell
        have Hdr := Aside0.mk hdr
        clear hp hdr
        have hsz1 : w1.heap.size ≤ wr.heap.size := HB.out.size
        cases c1 : p.toList.isEmpty with
        | true =>
          go_wp2_with fail
          go_roundg (ps.length - (k + 1))
          case measure => omega
          case rel =>
            refine ⟨k + 1, row, by omega, by go_num, ⟨?_⟩, ⟨by have := HL.out; omega⟩, HO, HB⟩
            have e := HR.out
            rw [Hdr.out, cleanRow, if_pos (.inl (by simpa using c1))] at e
            exact e
        | false =>
        cases c2 : p.toList == [46] with
        | true =>
          go_wp2_with fail
          go_roundg (ps.length - (k + 1))
          case measure => omega
          case rel =>
            refine ⟨k + 1, row, by omega, by go_num, ⟨?_⟩, ⟨by have := HL.out; omega⟩, HO, HB⟩
            have e := HR.out
            rw [Hdr.out, cleanRow, if_pos (.inr (by simpa using c2))] at e
            exact e
        | false =>
        have n12 : ¬ (p.toList = [] ∨ p.toList = [46]) := by
          rintro (h | h)
          · rw [h] at c1; simp at c1
          · rw [h] at c2; simp at c2
        have N12 := Aside0.mk n12
        clear n12
        obtain ⟨A2, cap, rfl, hlc2, _⟩ := Kd.R_reads HO.out
        cases c3 : p.toList == [46, 46] with
        | true =>
          cases c4 : ((row.length : Int) == 0) with
          | true =>
            go_wp2_with fail
            go_ret2
            have hrow : row = [] := List.eq_nil_of_length_eq_zero (by have := beq_iff_eq.1 c4; omega)
            have hcl : clean s = (⟨#[]⟩, 32) := by
              have e := HR.out
              rw [Hdr.out, cleanRow, if_neg N12.out, if_pos (by simpa using c3), if_pos hrow] at e
              unfold clean
              rw [if_neg (by omega), Hps.out, ← e]
            exact ⟨by rw [hcl]; rfl, below_then HBw.out HBw.out.size HB.out⟩
          | false =>
            have hr1 : 1 ≤ row.length := by have := beq_eq_false_iff_ne.1 c4; omega
            have hr2 : row.length ≤ 4097 := by have := HL.out; omega
            go_wp2_with fail
            go_roundg (ps.length - (k + 1))
            case measure => omega
            case rel =>
              refine ⟨k + 1, row.take (row.length - 1), by omega, by go_num, ⟨?_⟩, ⟨?_⟩, ⟨Kd.R_take HO.out (Nat.sub_le _ _)⟩, HB⟩
              · have hrow : row ≠ [] := by rintro rfl; simp at hr1
                have e := HR.out
                rw [Hdr.out, cleanRow, if_neg N12.out, if_pos (by simpa using c3), if_neg hrow, List.dropLast_eq_take] at e
                exact e
              · have := HL.out
                rw [List.length_take]
                omega
        | false =>
          cases c5 : isName p with
          | false =>
            go_wp2_with (go_at_call 173; refine (isName_calls _ _).mono ?_; rintro e w' ⟨rfl, hb⟩; have HB2 := Aside0.mk hb; clear hb; rw [c5])
            go_ret2
            have hcl : clean s = (⟨#[]⟩, 31) := by
              have e := HR.out
              rw [Hdr.out, cleanRow, if_neg N12.out, if_neg (by intro h; rw [h] at c3; simp at c3), if_neg (by rw [c5]; simp)] at e
              unfold clean
              rw [if_neg (by omega), Hps.out, ← e]
            exact ⟨by rw [hcl]; rfl, below_then (below_then HBw.out HBw.out.size HB.out) (Nat.le_trans HBw.out.size HB.out.size) HB2.out⟩
          | true =>
            have hr2 : row.length ≤ 4097 := by have := HL.out; omega
            go_wp2_with (first
              | (go_at_call 173; refine (isName_calls _ _).mono ?_; rintro e w' ⟨rfl, hb⟩; have HB2 := Aside0.mk hb; clear hb; rw [c5])
              | (at_builtin; refine app_str (w0 := w1) (base := w1.heap.size) rfl (.tmp 17) (.tmp 19) rfl (.slice A2 row.length cap) row p rfl rfl (Kd.R_below HO.out HB2.out) (below_then HB.out hsz1 HB2.out) (Nat.le_trans hsz1 HB2.out.size) (by omega) ?_; intro v2 w2 ho hb2 hz2; have HO2 := Aside0.mk ho; have HB3 := Aside0.mk hb2; clear ho hb2))
            go_roundg (ps.length - (k + 1))
            case measure => omega
            case rel =>
              refine ⟨k + 1, row ++ [p], by omega, by go_num, ⟨?_⟩, ⟨?_⟩, HO2, HB3⟩
              · have e := HR.out
                rw [Hdr.out, cleanRow, if_neg N12.out, if_neg (by intro h; rw [h] at c3; simp at c3), if_pos c5] at e
                exact e
              · have := HL.out
                simp
                omega
      · obtain rfl : k = ps.length := by omega
        have hcr : cleanRow ps [] = .ok row := by
          have e := HR.out
          rw [List.drop_length, cleanRow] at e
          exact e.symm
        have Hcr := Aside0.mk hcr
        clear hcr
        have hr2 : row.length ≤ 4097 := by have := HL.out; omega
        obtain ⟨A2, cap, rfl, hlc2, _⟩ := Kd.R_reads HO.out
        cases c6 : decide ((32 : Int) < (row.length : Int)) with
        | true =>
          go_wp2_with fail
          go_ret2
          have hcl : clean s = (⟨#[]⟩, 33) := by
            unfold clean
            rw [if_neg (by omega), Hps.out, Hcr.out]
            show (if 32 < row.length then _ else _) = _
            rw [if_pos (by have := of_decide_eq_true c6; omega)]
          exact ⟨by rw [hcl]; rfl, below_then HBw.out HBw.out.size HB.out⟩
        | false =>
          go_wp2_with fail
          have hjl : (Lib.join (row.map (·.data.toList)) [47]).length ≤ 140737488355328 := by
            have h1 := join_len (row.map (·.data.toList)) 64 (fun x hx => by
              obtain ⟨q, hq, rfl⟩ := List.mem_map.1 hx
              exact isName_len (cleanRow_names ps [] row Hcr.out (fun _ h => by cases h) q hq))
            rw [List.length_map] at h1
            omega
          obtain ⟨A3, c3, e3, hj⟩ := join_calls HO.out hjl (by omega)
          cases e3
          refine hj.mono ?_
          rintro e w' ⟨rfl, hb3⟩
          have HB3 := Aside0.mk hb3
          clear hb3 hj
          go_wp2_with fail
          go_ret2
          have hcl : clean s = (joinB row, 0) := by
            unfold clean
            rw [if_neg (by omega), Hps.out, Hcr.out]
            show (if 32 < row.length then _ else _) = _
            rw [if_neg (by have := of_decide_eq_false c6; omega)]
          exact ⟨by rw [hcl]; rfl, below_then (below_then HBw.out HBw.out.size HB.out) (Nat.le_trans HBw.out.size HB.out.size) HB3.out⟩
def isClean (s : ByteArray) : Bool := decide ((clean s).2 = 0) && ((clean s).1.toList == s.toList)
theorem isClean_calls (s : ByteArray) (w : World) (hG : Glob w) : Calls Tryz.prog 52 #[.string s] w fun e w' => e = .returned (.bool (isClean s)) ∧ Below w.heap.size w w' := by
  obtain ⟨p, hp⟩ : ∃ p, (clean s).1 = p := ⟨_, rfl⟩
  obtain ⟨n, hn⟩ : ∃ n, (clean s).2 = n := ⟨_, rfl⟩
  have HP := Aside0.mk hp
  have HN := Aside0.mk hn
  have h := clean_calls s w hG
  rw [hp, hn] at h
  have HC := Lib.hid h
  clear hp hn h hG
  cases c1 : (n == 0) with
  | false =>
    go_enter Tryz.func52, Tryz.ntmps52
    go_wp2_with fail
    refine HC.out.mono ?_
    rintro e w' ⟨rfl, hb⟩
    have HB := Aside0.mk hb
    clear hb
    go_wp2_with fail
    go_ret
    refine ⟨?_, HB.out⟩
    rw [isClean, HN.out, decide_eq_false (beq_eq_false_iff_ne.1 c1)]
    rfl
  | true =>
    go_enter Tryz.func52, Tryz.ntmps52
    go_wp2_with fail
    refine HC.out.mono ?_
    rintro e w' ⟨rfl, hb⟩
    have HB := Aside0.mk hb
    clear hb
    go_wp2_with fail
    go_ret
    refine ⟨?_, HB.out⟩
    rw [isClean, HN.out, HP.out, decide_eq_true (beq_iff_eq.1 c1)]
    rfl
def splitP (p : ByteArray) : ByteArray × ByteArray × Int :=
  if isClean p then (if p.toList = [] then (⟨#[]⟩, ⟨#[]⟩, 32) else
    (p.extract 0 (max (Lib.lastIndexByte p 47) 0).toNat, p.extract (Lib.lastIndexByte p 47 + 1).toNat p.size, 0))
  else (⟨#[]⟩, ⟨#[]⟩, 31)
theorem isClean_size {s : ByteArray} (h : isClean s = true) : s.size ≤ 4096 := by
  rcases Nat.lt_or_ge 4096 s.size with hs | hs
  · unfold isClean clean at h
    rw [if_pos hs] at h
    simp at h
  · exact hs
theorem lastIndex_bd (p : ByteArray) (c : Int) : -1 ≤ Lib.lastIndexByte p c ∧ Lib.lastIndexByte p c < p.size := by
  rcases Lib.lastIdx_spec p c p.size with ⟨h, _⟩ | ⟨i, h1, h2, _⟩
  · unfold Lib.lastIndexByte; rw [h]; omega
  · unfold Lib.lastIndexByte; rw [h2]; omega
theorem max_zero (n : Int) (w : World) : (Builtin.max_ #[3, 3] 3 #[.int .i64 n, .int .i64 0]).run Tryz.prog w = .ok (.int .i64 (max n 0)) w := by
  simp only [Builtin.max_, Builtin.max2, List.foldlM]
  have : (if (0 : Int) > n then 0 else n) = max n 0 := by split <;> omega
  rw [this]
  rfl
theorem split_calls (p : ByteArray) (w : World) (hG : Glob w) : Calls Tryz.prog 75 #[.string p] w fun e w' => e = .returned (.tuple #[.string (splitP p).1, .string (splitP p).2.1, .int .i64 (splitP p).2.2]) ∧ Below w.heap.size w w' := by
  have h := isClean_calls p w hG
  have HC := Lib.hid h
  clear h hG
  have hnot : ∀ (x : Bool) (w : World), (Op.unary .not (.bool x)).run Tryz.prog w = .ok (.bool (!x)) w := fun _ _ => rfl
  cases c1 : isClean p with
  | false =>
    go_enter Tryz.func75, Tryz.ntmps75
    go_wp2_with fail
    refine HC.out.mono ?_
    rintro e w' ⟨rfl, hb⟩
    rw [c1]
    have HB := Aside0.mk hb
    clear hb
    go_wp2_with fail
    refine bodyPost_ret (results_tmp3 rfl _ _ _) rfl ?_
    refine ⟨?_, HB.out⟩
    unfold splitP
    rw [c1]
    rfl
  | true =>
    cases c2 : p.toList.isEmpty with
    | true =>
      go_enter Tryz.func75, Tryz.ntmps75
      go_wp2_with fail
      refine HC.out.mono ?_
      rintro e w' ⟨rfl, hb⟩
      rw [c1]
      have HB := Aside0.mk hb
      clear hb
      go_wp2_with fail
      refine bodyPost_ret (results_tmp3 rfl _ _ _) rfl ?_
      refine ⟨?_, HB.out⟩
      unfold splitP
      rw [c1, if_pos rfl, if_pos (by simpa using c2)]
      rfl
    | false =>
      obtain ⟨n, hn⟩ : ∃ n, Lib.lastIndexByte p 47 = n := ⟨_, rfl⟩
      have hsz : p.size ≤ 4096 := isClean_size c1
      have hn1 : -1 ≤ n ∧ n < p.size := by rw [← hn]; exact lastIndex_bd p 47
      obtain ⟨hn1, hn2⟩ := hn1
      have HN := Aside0.mk hn
      have h1 := Tryz.strings_LastIndexByte p 47 (by omega)
      rw [hn] at h1
      have H1 := Lib.hid h1
      clear h1 hn
      go_enter Tryz.func75, Tryz.ntmps75
      go_wp2_with fail
      refine HC.out.mono ?_
      rintro e w' ⟨rfl, hb⟩
      rw [c1]
      have HB := Aside0.mk hb
      clear hb
      go_wp2_with fail
      refine (H1.out _).mono ?_
      rintro e w2 ⟨rfl, rfl⟩
      go_wp2_with fail
      have hmx := fun w : World => max_zero n w
      go_quiet (fail)
      go_wp2_with fail
      refine bodyPost_ret (results_tmp3 rfl _ _ _) rfl ?_
      refine ⟨?_, pw_below_drewN HB.out _⟩
      unfold splitP
      rw [c1, if_pos rfl, if_neg (by intro h; rw [h] at c2; simp at c2), HN.out]
      rfl
def cmpS (a b : ByteArray) : Int := if Op.bytesLess a.toList b.toList then -1 else if a.toList == b.toList then 0 else 1
theorem isNaN_calls (s : ByteArray) (w : World) : Calls Tryz.prog 178 #[.string s] w fun e w' => e = .returned (.bool false) ∧ w = w' := by
  go_enter Tryz.func178, Tryz.ntmps178
  go_wp2_with fail
  go_ret
  exact ⟨by simp, rfl⟩
theorem compare_calls (a b : ByteArray) (w : World) : Calls Tryz.prog 108 #[.string a, .string b] w fun e w' => e = .returned (.int .i64 (cmpS a b)) ∧ w = w' := by
  cases c1 : Op.bytesLess a.toList b.toList with
  | true =>
    go_enter Tryz.func108, Tryz.ntmps108
    go_wp2_with (go_at_call 178; refine (isNaN_calls _ _).mono ?_; rintro e w' ⟨rfl, rfl⟩)
    go_ret
    exact ⟨by rw [cmpS, if_pos c1]; rfl, rfl⟩
  | false =>
    cases c2 : (a.toList == b.toList) with
    | true =>
      have c3 : (!(a.toList == b.toList)) = false := by rw [c2]; rfl
      go_enter Tryz.func108, Tryz.ntmps108
      go_wp2_with (go_at_call 178; refine (isNaN_calls _ _).mono ?_; rintro e w' ⟨rfl, rfl⟩)
      go_ret
      exact ⟨by rw [cmpS, if_neg (by rw [c1]; simp), if_pos c2]; rfl, rfl⟩
    | false =>
      have c3 : (!(a.toList == b.toList)) = true := by rw [c2]; rfl
      go_enter Tryz.func108, Tryz.ntmps108
      go_wp2_with (go_at_call 178; refine (isNaN_calls _ _).mono ?_; rintro e w' ⟨rfl, rfl⟩)
      go_ret
      exact ⟨by rw [cmpS, if_neg (by rw [c1]; simp), if_neg (by rw [c2]; simp)]; rfl, rfl⟩
end Go.Proofs.YtbpfmlckddhgbaaGreatDoor
/- The walks of package path, on: the order of paths, what lies under what. -/
namespace Go.Proofs.YtbpfmlckddhgbaaGreatDoor
open Go Go.RowKit Go.Proofs.YtbpfmlckddhgbaaGreatDoorW.PrintWords
def cmpL : List ByteArray → List ByteArray → Int
  | [], [] => 0
  | [], _ :: _ => -1
  | _ :: _, [] => 1
  | a :: x, b :: y => if cmpS a b = 0 then cmpL x y else cmpS a b
theorem drop_at {α : Type} (xs : List α) (z : α) (k : Nat) (h : k < xs.length) : xs.drop k = xs.getD k z :: xs.drop (k + 1) := by
  rw [List.drop_eq_getElem_cons h, List.getD_eq_getElem?_getD, List.getElem?_eq_getElem h]; rfl
set_option maxHeartbeats 400000 in
theorem compareFunc_calls (A1 A2 : Option Addr) (n1 c1 n2 c2 : Nat) (xs ys : List ByteArray) (w : World) (h1 : n1 = xs.length) (h2 : n2 = ys.length) (hx : Kd.string.C w A1 xs.length xs) (hy : Kd.string.C w A2 ys.length ys)
    (_hl1 : xs.length ≤ 1048576) (hl2 : ys.length ≤ 1048576) :
    Calls Tryz.prog 107 #[.slice A1 n1 c1, .slice A2 n2 c2, .func (.func 108) #[] #[]] w fun e w' => e = .returned (.int .i64 (cmpL xs ys)) ∧ w = w' := by
  subst h1 h2
  have HX := Aside0.mk hx
  have HY := Aside0.mk hy
  clear hx hy
  go_enter Tryz.func107, Tryz.ntmps107
  go_wp2_with fail
  go_loopg [13] xs.length (fun g i wr => w = wr ∧ ∃ k : Nat, k + g = xs.length ∧ i = .int .i64 k ∧ Aside0 (k ≤ ys.length) ∧ Aside0 (cmpL (xs.drop k) (ys.drop k) = cmpL xs ys))
  case atStart => exact ⟨rfl, 0, by omega, rfl, ⟨by omega⟩, ⟨by simp⟩⟩
  case round =>
    obtain ⟨rfl, k, hk, rfl, HK, HR⟩ := hrel
    by_cases hlt : k < xs.length
    · obtain ⟨ad, rfl, hcell⟩ := C_at HX.out ByteArray.empty k hlt
      have hdr := drop_at xs ByteArray.empty k hlt
      obtain ⟨p, hp⟩ : ∃ p, xs.getD k ByteArray.empty = p := ⟨_, rfl⟩
      rw [hp] at hcell hdr
      have HD := Aside0.mk hdr
      clear hp hdr
      by_cases hge : k < ys.length
      · obtain ⟨ad2, rfl, hcell2⟩ := C_at HY.out ByteArray.empty k hge
        have hdr2 := drop_at ys ByteArray.empty k hge
        obtain ⟨q, hq⟩ : ∃ q, ys.getD k ByteArray.empty = q := ⟨_, rfl⟩
        rw [hq] at hcell2 hdr2
        have HD2 := Aside0.mk hdr2
        clear hq hdr2
        cases hs : (cmpS p q != 0) with
        | true =>
          go_wp2_with (go_at_call 108; refine (compare_calls _ _ _).mono ?_; rintro e w' ⟨rfl, rfl⟩)
          go_ret
          refine ⟨?_, rfl⟩
          have e := HR.out
          rw [HD.out, HD2.out, cmpL, if_neg (bne_iff_ne.1 hs)] at e
          rw [← e]; rfl
        | false =>
          go_wp2_with (go_at_call 108; refine (compare_calls _ _ _).mono ?_; rintro e w' ⟨rfl, rfl⟩)
          go_roundg (xs.length - (k + 1))
          case measure => omega
          case rel =>
            refine ⟨rfl, k + 1, by omega, by go_num, ⟨by omega⟩, ⟨?_⟩⟩
            have e := HR.out
            rw [HD.out, HD2.out, cmpL, if_pos (bne_eq_false_iff_eq.1 hs)] at e
            exact e
      · go_wp2_with fail
        go_ret
        refine ⟨?_, rfl⟩
        have e := HR.out
        rw [HD.out, List.drop_eq_nil_of_le (show ys.length ≤ k by omega), cmpL] at e
        rw [← e]; rfl
    · obtain rfl : k = xs.length := by omega
      by_cases hlt2 : xs.length < ys.length
      · go_wp2_with fail
        go_ret
        refine ⟨?_, rfl⟩
        have e := HR.out
        rw [List.drop_length, drop_at ys ByteArray.empty _ hlt2, cmpL] at e
        rw [← e]; rfl
      · go_wp2_with fail
        go_ret
        refine ⟨?_, rfl⟩
        have e := HR.out
        rw [List.drop_length, List.drop_eq_nil_of_le (show ys.length ≤ xs.length by omega), cmpL] at e
        rw [← e]; rfl
def less (a b : ByteArray) : Bool := decide (cmpL (parts a) (parts b) < 0)
theorem less_calls (a b : ByteArray) (w : World) (hG : Glob w) (ha : a.size ≤ 1048575) (hb : b.size ≤ 1048575) : Calls Tryz.prog 60 #[.string a, .string b] w fun e w' => e = .returned (.bool (less a b)) ∧ Below w.heap.size w w' := by
  go_enter Tryz.func60, Tryz.ntmps60
  go_wp2_with fail
  refine (parts_calls a w hG (by omega)).mono ?_
  rintro e w1 ⟨v1, rfl, hR1, hb1⟩
  obtain ⟨A1, c1, rfl, _, hC1⟩ := Kd.R_reads hR1
  have HB1 := Aside0.mk hb1
  have HC1 := Aside0.mk hC1
  have HG := Aside0.mk hG
  clear hR1 hC1 hb1 hG
  go_wp2_with fail
  refine (parts_calls b w1 (HG.out.below HB1.out) (by omega)).mono ?_
  rintro e w2 ⟨v2, rfl, hR2, hb2⟩
  obtain ⟨A2, c2, rfl, _, hC2⟩ := Kd.R_reads hR2
  have HB2 := Aside0.mk hb2
  have HC2 := Aside0.mk hC2
  clear hR2 hC2 hb2
  go_wp2_with fail
  refine (compareFunc_calls A1 A2 _ c1 _ c2 (parts a) (parts b) w2 rfl rfl (Kd.C_below HC1.out HB2.out) HC2.out (parts_len a ha) (parts_len b hb)).mono ?_
  rintro e w3 ⟨rfl, rfl⟩
  go_wp2_with fail
  go_ret
  exact ⟨by simp [less], below_then HB1.out HB1.out.size HB2.out⟩
def under (a b : ByteArray) : Bool := decide ((parts a).length ≤ (parts b).length) && decide ((parts a) = (parts b).take (parts a).length)
end Go.Proofs.YtbpfmlckddhgbaaGreatDoor
