/- The proof that the law's row holds, part 1: the kit's words, the printed walks and the plain law. No conditions beyond the card's own. -/
import Derived.Shelf.Strings.Builder1
import Derived.Shelf.Strings.Builder2
import Derived.Shelf.Strings.OnBuilder
import Derived.Shelf.Strings.Trim
import Derived.Shelf.Small.Utf8
import Derived.Shelf.Small.Bits
import Derived.Shelf.Small.Strs
import Derived.Shelf.Small.Wraps
import Derived.Shelf.Strings.BuilderF
import Derived.Shelf.Strings.BuilderK
import Derived.Shelf.Strings.Builder2Cap
import Derived.Shelf.Strconv.Itoa0
import Derived.Shelf.Strings.Search1
import Derived.Shelf.Strings.Search2
import Derived.Shelf.Strings.Search3
import Derived.Shelf.Strings.Count
import Derived.Shelf.LaysM
import Derived.Shelf.Strings.Shaped
import Derived.Shelf.Sort.Plain
import Derived.Shelf.Strings.Split
import Derived.Shelf.Strings.SplitShaped
import Derived.Shelf.Strings.Runes
import Derived.Shelf.Strings.AsciiSet
import Derived.Shelf.Unicode.DecodeSlow
import Derived.Shelf.Strings.BuilderCap
import Derived.Shelf.Slices.Turned
import Derived.Shelf.Slices.Reverse
import Derived.Ground.Names2Prog
import Derived.Shelf.Slices.Clone
import Derived.Shelf.Slices.CompactI
import Derived.Shelf.Slices.SearchI
import Derived.Shelf.Slices.In.SortNone
import Derived.Ground.SlgnProg
import Derived.Shelf.SlicesE.Index
import Derived.Shelf.SlicesE.Reverse
import Derived.Shelf.SlicesE.Equal
import Derived.Shelf.SlicesE.Compact
import Derived.Shelf.SlicesE.Clone
import Derived.Ground.SlgfProg
import Derived.Shelf.SlicesE.IndexFunc
import Derived.Ground.SlsfProg
import Derived.Shelf.SlSortCmp.Insertion
import Derived.Shelf.SlSortCmp.SiftDown1
import Derived.Shelf.SlSortCmp.HeapSort1
import Derived.Shelf.SlSortCmp.Insertion1
import Derived.Shelf.SlSortCmp.Median1
import Derived.Shelf.SlSortCmp.Pivot1
import Derived.Shelf.SlSortCmp.ReverseRange1
import Derived.Shelf.SlSortCmp.PartialInsertion1
import Derived.Shelf.SlSortCmp.PartitionEqual1
import Derived.Shelf.SlSortCmp.Partition1
import Derived.Shelf.SlSortCmp.Pdq1
import Derived.Shelf.SlSortCmp.Whole1
import Derived.Shelf.SlSortCmp.NoneTotal
import Derived.Test.YtdffgeoegdkiaaaGreatDoorProg
import Derived.Shelf.Strings.SlTrimAscii
import Derived.Below
import Derived.Deep.Draws
import Derived.Deep.AppendLies
import Derived.Maps.AppendAt
import Derived.OwnWalk
import Derived.Laws.BytesArg
import Derived.Laws.MakeOwn
import Derived.Laws.OwnMore
import Derived.Deep.OwnRows
import Derived.Tactics
import Derived.Lib.ConvBytes
import Derived.Laws.Slices
import Derived.WalkKit
import Derived.KernelRfl
import Derived.RowKit3
import Derived.Deep.LoopGhost
import Derived.Deep.QuietTactic
import Derived.BigQuiet
import Derived.WideLaws
import Derived.Deep.DeepCutAuto
import Derived.Deep.CutBlock
import Derived.Deep.RegionHeld3
import Derived.Laws.Rows
import Derived.Lib.AppendStr
import Derived.ArgAppend
import Derived.Laws.IdiomCopy
import Derived.OrdersHeld
import Derived.Laws.BitsLemmas
import Derived.RowKit
import Derived.RangeFuncBox
import Derived.RangeFuncLeaves
import Derived.RangeFuncNested
import Derived.RangeFuncBound
import Derived.RangeFuncCalls
import Derived.Shelf.Abstract
import Derived.Shelf.RegionOpen
import Derived.OwnWalkIn
import Derived.TacticsInMore
import Derived.LoopNIn
import Derived.LoopIn
import Derived.Test.YtdffgeoegdkiaaaGreatDoorM0
set_option linter.unusedVariables false
set_option linter.unusedSimpArgs false
namespace Go.Proofs.YtdffgeoegdkiaaaGreatDoor
open Go.RowKit Go.Proofs.YtdffgeoegdkiaaaGreatDoorW.PrintWords Go.Proofs.YtdffgeoegdkiaaaGreatDoorW.PrintLast Go.Proofs.YtdffgeoegdkiaaaGreatDoorW.PrintMore
theorem am {p : Prop} (h : p) : Aside0 p := ⟨h⟩
theorem ac_ : (∀ (l : List Value) (i : Nat) (a : Value), l.toArray.setIfInBounds i a = (l.set i a).toArray) ∧ (∀ (a b : Value) (l : List Value), (a :: l).set 0 b = b :: l) ∧ (∀ (a b : Value) (l : List Value) (n : Nat), (a :: l).set (n + 1) b = a :: l.set n b) ∧ (∀ n : Int, IntKind.i64.wrap n = wrap64 n) ∧ ∀ n : Int, IntKind.i32.wrap n = wrap32 n :=
  ⟨fun _ _ _ => by rw [List.setIfInBounds_toArray], fun _ _ _ => rfl, fun _ _ _ _ => rfl, fun _ => by rw [i64_w], fun _ => by rw [i32_w]⟩
def bm (n k : Nat) : Array Bool := ((List.range n).map fun i => k.testBit i).toArray
theorem mo {p : Prop} (h : p := by
  repeat' first
  | (with_reducible apply ih0)
  | (with_reducible apply ih1)
  | (with_reducible apply ih2)
  | (with_reducible apply ih3)
  | (with_reducible apply ih4)
  | (with_reducible apply ih5)
  | (with_reducible apply ih6)
  | (with_reducible apply ih7)
  | (with_reducible apply ih8)
  | (with_reducible apply im0)
  | (with_reducible apply im1)
  | (with_reducible apply im2)
  | (with_reducible apply im3)
  | (with_reducible apply im4)
  | (with_reducible apply im5)
  | (with_reducible apply im6)
  | (with_reducible apply im7)
  | (with_reducible apply im8)
  | (with_reducible exact LeO.refl _)
  | (with_reducible exact LeO.none _)
  | (with_reducible refine LeO.ite ?_ ?_)
  | (with_reducible refine LeO.bind ?_ (fun _ => ?_))
  | apply ih0
  | apply ih1
  | apply ih2
  | apply ih3
  | apply ih4
  | apply ih5
  | apply ih6
  | apply ih7
  | apply ih8
  | apply im0
  | apply im1
  | apply im2
  | apply im3
  | apply im4
  | apply im5
  | apply im6
  | apply im7
  | apply im8
  | exact LeO.none _
  | refine LeO.ite ?_ ?_
  | refine LeO.bind ?_ (fun _ => ?_)) : p := h
end Go.Proofs.YtdffgeoegdkiaaaGreatDoor
namespace Go.Proofs
open Go.Shelf
def Tryz.lays156_ren : Go.Shelf.Ren := ⟨fun | 156 => 128 | 165 => 169 | 166 => 170 | 169 => 171 | 240 => 196 | 241 => 197 | 276 => 220 | 277 => 221 | n => n, fun | 31 => 22 | 9 => 9 | 3 => 3 | 4 => 4 | 0 => 0 | 20 => 20 | 72 => 158 | 76 => 162 | 70 => 156 | 37 => 60 | 75 => 161 | 127 => 182 | 164 => 195 | 5 => 5 | 80 => 95 | n => n, fun | n => n⟩
theorem Tryz.lays156 : Go.Proofs.Lays.n156 Tryz.prog Tryz.lays156_ren := {
  mixed := by kernel_rfl
  f156 := Tryz.func128.trans (congrArg some (by kernel_rfl))
  f165 := Tryz.func169.trans (congrArg some (by kernel_rfl))
  f166 := Tryz.func170.trans (congrArg some (by kernel_rfl))
  f169 := Tryz.func171.trans (congrArg some (by kernel_rfl))
  f240 := Tryz.func196.trans (congrArg some (by kernel_rfl))
  f241 := Tryz.func197.trans (congrArg some (by kernel_rfl))
  f276 := Tryz.func220.trans (congrArg some (by kernel_rfl))
  f277 := Tryz.func221.trans (congrArg some (by kernel_rfl))
  t0 := Tryz.underlying0
  a0 := Tryz.isAgg0
  z0 := Tryz.sizeOf0
  v0 := Tryz.zeroValue0
  t3 := Tryz.underlying3
  a3 := Tryz.isAgg3
  z3 := Tryz.sizeOf3
  v3 := Tryz.zeroValue3
  t4 := Tryz.underlying4
  a4 := Tryz.isAgg4
  z4 := Tryz.sizeOf4
  v4 := Tryz.zeroValue4
  t9 := Tryz.underlying9
  a9 := Tryz.isAgg9
  z9 := Tryz.sizeOf9
  v9 := Tryz.zeroValue9
  t20 := Tryz.underlying20
  a20 := Tryz.isAgg20
  z20 := Tryz.sizeOf20
  v20 := Tryz.zeroValue20
  t31 := Tryz.underlying22
  a31 := Tryz.isAgg22
  z31 := Tryz.sizeOf22
  v31 := Tryz.zeroValue22
  t37 := Tryz.underlying60
  a37 := Tryz.isAgg60
  z37 := Tryz.sizeOf60
  v37 := Tryz.zeroValue60
  t70 := Tryz.underlying156
  a70 := Tryz.isAgg156
  z70 := Tryz.sizeOf156
  v70 := Tryz.zeroValue156
  t72 := Tryz.underlying158
  a72 := Tryz.isAgg158
  z72 := Tryz.sizeOf158
  v72 := Tryz.zeroValue158
  t75 := Tryz.underlying161
  a75 := Tryz.isAgg161
  z75 := Tryz.sizeOf161
  v75 := Tryz.zeroValue161
  t76 := Tryz.underlying162
  a76 := Tryz.isAgg162
  z76 := Tryz.sizeOf162
  v76 := Tryz.zeroValue162
  t127 := Tryz.underlying182
  a127 := Tryz.isAgg182
  z127 := Tryz.sizeOf182
  v127 := Tryz.zeroValue182
  t164 := Tryz.underlying195
  a164 := Tryz.isAgg195
  z164 := Tryz.sizeOf195
  v164 := Tryz.zeroValue195 }
theorem Tryz.Builder_Extra_156 : Builder.Extra Tryz.prog Tryz.lays156_ren := {
  sizeBuilder := by kernel_rfl
  liesBuilder := by kernel_rfl
  t5 := Tryz.underlying5
  a5 := Tryz.isAgg5
  z5 := Tryz.sizeOf5
  v5 := Tryz.zeroValue5
  infoByte := by kernel_rfl
  cellsByte := by kernel_rfl
  sizeByte := by kernel_rfl
  neB5 := by decide }
open Go.RowKit in
theorem Tryz.strings_Join_none (a : Option Addr) (c : Nat) (sep : ByteArray) (w : World) :
    Calls Tryz.prog 128 #[.slice a 0 c, .string sep] w fun e w' => e = .returned (.string ⟨#[]⟩) ∧ w' = w := Any.strings_Join_none Tryz.lays156 Tryz.Builder_Extra_156 a c sep w
open Go.RowKit in
theorem Tryz.strings_Join (bk o c : Nat) (xs : List ByteArray) (sep : ByteArray) (w : World) (hcells : ∀ (j : Nat) x, xs[j]? = some x → w.cell? ⟨bk, o + j, none⟩ = some (.string x)) (hbk : bk < w.heap.size) (hN : xs.length ≤ 140737488355328) (hcap : xs.length ≤ c) (hlen : (Lib.join (xs.map (·.data.toList)) sep.data.toList).length ≤ 140737488355328) :
    Calls Tryz.prog 128 #[.slice (some ⟨bk, o, none⟩) xs.length c, .string sep] w fun e w' => e = .returned (.string ⟨(Lib.join (xs.map (·.data.toList)) sep.data.toList).toArray⟩) ∧ Below w.heap.size w w' := Any.strings_Join Tryz.lays156 Tryz.Builder_Extra_156 bk o c xs sep w hcells hbk hN hcap hlen
def Tryz.lays160_ren : Go.Shelf.Ren := ⟨fun | 160 => 103 | 232 => 141 | 231 => 140 | 227 => 142 | 234 => 144 | 233 => 143 | 236 => 146 | 235 => 145 | 228 => 176 | 271 => 179 | 151 => 178 | 197 => 177 | 120 => 209 | 152 => 208 | 260 => 207 | 137 => 226 | 119 => 227 | 224 => 212 | 225 => 211 | 217 => 210 | 266 => 228 | n => n, fun | 9 => 9 | 4 => 4 | 3 => 3 | 5 => 5 | 117 => 134 | 116 => 133 | 0 => 0 | 124 => 137 | 21 => 21 | 105 => 168 | 46 => 117 | 119 => 200 | 139 => 203 | 138 => 202 | n => n, fun | 3 => 1 | 4 => 2 | n => n⟩
theorem Tryz.lays160 : Go.Proofs.Lays.n160 Tryz.prog Tryz.lays160_ren := {
  mixed := by kernel_rfl
  f119 := Tryz.func227.trans (congrArg some (by kernel_rfl))
  f120 := Tryz.func209.trans (congrArg some (by kernel_rfl))
  f137 := Tryz.func226.trans (congrArg some (by kernel_rfl))
  f151 := Tryz.func178.trans (congrArg some (by kernel_rfl))
  f152 := Tryz.func208.trans (congrArg some (by kernel_rfl))
  f160 := Tryz.func103.trans (congrArg some (by kernel_rfl))
  f197 := Tryz.func177.trans (congrArg some (by kernel_rfl))
  f217 := Tryz.func210.trans (congrArg some (by kernel_rfl))
  f224 := Tryz.func212.trans (congrArg some (by kernel_rfl))
  f225 := Tryz.func211.trans (congrArg some (by kernel_rfl))
  f227 := Tryz.func142.trans (congrArg some (by kernel_rfl))
  f228 := Tryz.func176.trans (congrArg some (by kernel_rfl))
  f231 := Tryz.func140.trans (congrArg some (by kernel_rfl))
  f232 := Tryz.func141.trans (congrArg some (by kernel_rfl))
  f233 := Tryz.func143.trans (congrArg some (by kernel_rfl))
  f234 := Tryz.func144.trans (congrArg some (by kernel_rfl))
  f235 := Tryz.func145.trans (congrArg some (by kernel_rfl))
  f236 := Tryz.func146.trans (congrArg some (by kernel_rfl))
  f260 := Tryz.func207.trans (congrArg some (by kernel_rfl))
  f266 := Tryz.func228.trans (congrArg some (by kernel_rfl))
  f271 := Tryz.func179.trans (congrArg some (by kernel_rfl))
  t0 := Tryz.underlying0
  a0 := Tryz.isAgg0
  z0 := Tryz.sizeOf0
  v0 := Tryz.zeroValue0
  t3 := Tryz.underlying3
  a3 := Tryz.isAgg3
  z3 := Tryz.sizeOf3
  v3 := Tryz.zeroValue3
  t4 := Tryz.underlying4
  a4 := Tryz.isAgg4
  z4 := Tryz.sizeOf4
  v4 := Tryz.zeroValue4
  t5 := Tryz.underlying5
  a5 := Tryz.isAgg5
  z5 := Tryz.sizeOf5
  v5 := Tryz.zeroValue5
  t9 := Tryz.underlying9
  a9 := Tryz.isAgg9
  z9 := Tryz.sizeOf9
  v9 := Tryz.zeroValue9
  t21 := Tryz.underlying21
  a21 := Tryz.isAgg21
  z21 := Tryz.sizeOf21
  v21 := Tryz.zeroValue21
  t46 := Tryz.underlying117
  a46 := Tryz.isAgg117
  z46 := Tryz.sizeOf117
  v46 := Tryz.zeroValue117
  t105 := Tryz.underlying168
  a105 := Tryz.isAgg168
  z105 := Tryz.sizeOf168
  v105 := Tryz.zeroValue168
  t116 := Tryz.underlying133
  a116 := Tryz.isAgg133
  z116 := Tryz.sizeOf133
  t117 := Tryz.underlying134
  a117 := Tryz.isAgg134
  z117 := Tryz.sizeOf134
  v117 := Tryz.zeroValue134
  t119 := Tryz.underlying200
  a119 := Tryz.isAgg200
  z119 := Tryz.sizeOf200
  t124 := Tryz.underlying137
  a124 := Tryz.isAgg137
  z124 := Tryz.sizeOf137
  v124 := Tryz.zeroValue137
  t138 := Tryz.underlying202
  a138 := Tryz.isAgg202
  z138 := Tryz.sizeOf202
  v138 := Tryz.zeroValue202
  t139 := Tryz.underlying203
  a139 := Tryz.isAgg203
  z139 := Tryz.sizeOf203
  v139 := Tryz.zeroValue203
  g3 := by kernel_rfl
  g4 := by kernel_rfl }
def Tryz.lays143_ren : Go.Shelf.Ren := ⟨fun | 143 => 149 | 219 => 180 | 217 => 210 | 225 => 211 | 224 => 212 | 267 => 213 | 266 => 228 | 314 => 229 | n => n, fun | 9 => 9 | 3 => 3 | 4 => 4 | 5 => 5 | 46 => 117 | 146 => 205 | 51 => 150 | n => n, fun | 1 => 0 | n => n⟩
theorem Tryz.lays143 : Go.Proofs.Lays.n143 Tryz.prog Tryz.lays143_ren := {
  mixed := by kernel_rfl
  f143 := Tryz.func149.trans (congrArg some (by kernel_rfl))
  f217 := Tryz.func210.trans (congrArg some (by kernel_rfl))
  f219 := Tryz.func180.trans (congrArg some (by kernel_rfl))
  f224 := Tryz.func212.trans (congrArg some (by kernel_rfl))
  f225 := Tryz.func211.trans (congrArg some (by kernel_rfl))
  f266 := Tryz.func228.trans (congrArg some (by kernel_rfl))
  f267 := Tryz.func213.trans (congrArg some (by kernel_rfl))
  f314 := Tryz.func229.trans (congrArg some (by kernel_rfl))
  t3 := Tryz.underlying3
  a3 := Tryz.isAgg3
  z3 := Tryz.sizeOf3
  v3 := Tryz.zeroValue3
  t4 := Tryz.underlying4
  a4 := Tryz.isAgg4
  z4 := Tryz.sizeOf4
  v4 := Tryz.zeroValue4
  t5 := Tryz.underlying5
  a5 := Tryz.isAgg5
  z5 := Tryz.sizeOf5
  v5 := Tryz.zeroValue5
  t9 := Tryz.underlying9
  a9 := Tryz.isAgg9
  z9 := Tryz.sizeOf9
  v9 := Tryz.zeroValue9
  t46 := Tryz.underlying117
  a46 := Tryz.isAgg117
  z46 := Tryz.sizeOf117
  v46 := Tryz.zeroValue117
  t51 := Tryz.underlying150
  a51 := Tryz.isAgg150
  z51 := Tryz.sizeOf150
  v51 := Tryz.zeroValue150
  t146 := Tryz.underlying205
  a146 := Tryz.isAgg205
  z146 := Tryz.sizeOf205
  v146 := Tryz.zeroValue205
  g1 := by kernel_rfl }
open Go.RowKit Go.Lib in
theorem Tryz.strings_Index_one (s : ByteArray) (c : UInt8) (w : World) :
    Calls Tryz.prog 149 #[.string s, .string ⟨#[c]⟩] w fun e w' => e = .returned (.int .i64 (Lib.indexByte s.data.toList c)) ∧ w' = w := Any.strings_Index_one Tryz.lays143 s c w
def Tryz.lays138_ren : Go.Shelf.Ren := ⟨fun | 138 => 104 | 195 => 147 | 218 => 148 | 143 => 149 | 219 => 180 | 217 => 210 | 225 => 211 | 224 => 212 | 267 => 213 | 266 => 228 | 314 => 229 | n => n, fun | 9 => 9 | 3 => 3 | 4 => 4 | 5 => 5 | 0 => 0 | 46 => 117 | 146 => 205 | 51 => 150 | n => n, fun | 1 => 0 | n => n⟩
theorem Tryz.lays138 : Go.Proofs.Lays.n138 Tryz.prog Tryz.lays138_ren := {
  mixed := by kernel_rfl
  f138 := Tryz.func104.trans (congrArg some (by kernel_rfl))
  f143 := Tryz.func149.trans (congrArg some (by kernel_rfl))
  f195 := Tryz.func147.trans (congrArg some (by kernel_rfl))
  f217 := Tryz.func210.trans (congrArg some (by kernel_rfl))
  f218 := Tryz.func148.trans (congrArg some (by kernel_rfl))
  f219 := Tryz.func180.trans (congrArg some (by kernel_rfl))
  f224 := Tryz.func212.trans (congrArg some (by kernel_rfl))
  f225 := Tryz.func211.trans (congrArg some (by kernel_rfl))
  f266 := Tryz.func228.trans (congrArg some (by kernel_rfl))
  f267 := Tryz.func213.trans (congrArg some (by kernel_rfl))
  f314 := Tryz.func229.trans (congrArg some (by kernel_rfl))
  t0 := Tryz.underlying0
  a0 := Tryz.isAgg0
  z0 := Tryz.sizeOf0
  v0 := Tryz.zeroValue0
  t3 := Tryz.underlying3
  a3 := Tryz.isAgg3
  z3 := Tryz.sizeOf3
  v3 := Tryz.zeroValue3
  t4 := Tryz.underlying4
  a4 := Tryz.isAgg4
  z4 := Tryz.sizeOf4
  v4 := Tryz.zeroValue4
  t5 := Tryz.underlying5
  a5 := Tryz.isAgg5
  z5 := Tryz.sizeOf5
  v5 := Tryz.zeroValue5
  t9 := Tryz.underlying9
  a9 := Tryz.isAgg9
  z9 := Tryz.sizeOf9
  v9 := Tryz.zeroValue9
  t46 := Tryz.underlying117
  a46 := Tryz.isAgg117
  z46 := Tryz.sizeOf117
  v46 := Tryz.zeroValue117
  t51 := Tryz.underlying150
  a51 := Tryz.isAgg150
  z51 := Tryz.sizeOf150
  v51 := Tryz.zeroValue150
  t146 := Tryz.underlying205
  a146 := Tryz.isAgg205
  z146 := Tryz.sizeOf205
  v146 := Tryz.zeroValue205
  g1 := by kernel_rfl }
open Go.RowKit Go.Lib in
theorem Tryz.strings_Count_one (s : ByteArray) (c : UInt8) (w : World) :
    Calls Tryz.prog 104 #[.string s, .string ⟨#[c]⟩] w fun e w' => e = .returned (.int .i64 (Lib.countByte s.data.toList c)) ∧ w' = w := Any.strings_Count_one Tryz.lays138 s c w
open Go.RowKit Go.Lib in
theorem Tryz.strings_Count (s sub : ByteArray) (m : Int) (w : World) (hs : s.size < 4294967281) (hm : w.cell? ⟨0, 0, none⟩ = some (.int .i64 m)) (h2 : 2 ≤ sub.size) :
    Calls Tryz.prog 104 #[.string s, .string sub] w fun e w' => e = .returned (.int .i64 (Lib.countB s sub)) ∧ w' = w := Any.strings_Count Tryz.lays138 s sub m w hs hm h2
def Tryz.lays221_ren : Go.Shelf.Ren := ⟨fun | 221 => 139 | 268 => 175 | 138 => 104 | 143 => 149 | 195 => 147 | 197 => 177 | 218 => 148 | 219 => 180 | 260 => 207 | 217 => 210 | 225 => 211 | 224 => 212 | 267 => 213 | 266 => 228 | 314 => 229 | n => n, fun | 9 => 9 | 3 => 3 | 31 => 22 | 4 => 4 | 0 => 0 | 105 => 168 | 21 => 21 | 5 => 5 | 46 => 117 | 119 => 200 | 139 => 203 | 138 => 202 | 146 => 205 | 51 => 150 | n => n, fun | 1 => 0 | 3 => 1 | 4 => 2 | n => n⟩
theorem Tryz.lays221 : Go.Proofs.Lays.n221 Tryz.prog Tryz.lays221_ren := {
  mixed := by kernel_rfl
  f138 := Tryz.func104.trans (congrArg some (by kernel_rfl))
  f143 := Tryz.func149.trans (congrArg some (by kernel_rfl))
  f195 := Tryz.func147.trans (congrArg some (by kernel_rfl))
  f197 := Tryz.func177.trans (congrArg some (by kernel_rfl))
  f217 := Tryz.func210.trans (congrArg some (by kernel_rfl))
  f218 := Tryz.func148.trans (congrArg some (by kernel_rfl))
  f219 := Tryz.func180.trans (congrArg some (by kernel_rfl))
  f221 := Tryz.func139.trans (congrArg some (by kernel_rfl))
  f224 := Tryz.func212.trans (congrArg some (by kernel_rfl))
  f225 := Tryz.func211.trans (congrArg some (by kernel_rfl))
  f260 := Tryz.func207.trans (congrArg some (by kernel_rfl))
  f266 := Tryz.func228.trans (congrArg some (by kernel_rfl))
  f267 := Tryz.func213.trans (congrArg some (by kernel_rfl))
  f268 := Tryz.func175.trans (congrArg some (by kernel_rfl))
  f314 := Tryz.func229.trans (congrArg some (by kernel_rfl))
  t0 := Tryz.underlying0
  a0 := Tryz.isAgg0
  z0 := Tryz.sizeOf0
  v0 := Tryz.zeroValue0
  t3 := Tryz.underlying3
  a3 := Tryz.isAgg3
  z3 := Tryz.sizeOf3
  v3 := Tryz.zeroValue3
  t4 := Tryz.underlying4
  a4 := Tryz.isAgg4
  z4 := Tryz.sizeOf4
  v4 := Tryz.zeroValue4
  t5 := Tryz.underlying5
  a5 := Tryz.isAgg5
  z5 := Tryz.sizeOf5
  v5 := Tryz.zeroValue5
  t9 := Tryz.underlying9
  a9 := Tryz.isAgg9
  z9 := Tryz.sizeOf9
  v9 := Tryz.zeroValue9
  t21 := Tryz.underlying21
  a21 := Tryz.isAgg21
  z21 := Tryz.sizeOf21
  v21 := Tryz.zeroValue21
  t31 := Tryz.underlying22
  a31 := Tryz.isAgg22
  z31 := Tryz.sizeOf22
  v31 := Tryz.zeroValue22
  t46 := Tryz.underlying117
  a46 := Tryz.isAgg117
  z46 := Tryz.sizeOf117
  v46 := Tryz.zeroValue117
  t51 := Tryz.underlying150
  a51 := Tryz.isAgg150
  z51 := Tryz.sizeOf150
  v51 := Tryz.zeroValue150
  t105 := Tryz.underlying168
  a105 := Tryz.isAgg168
  z105 := Tryz.sizeOf168
  v105 := Tryz.zeroValue168
  t119 := Tryz.underlying200
  a119 := Tryz.isAgg200
  z119 := Tryz.sizeOf200
  t138 := Tryz.underlying202
  a138 := Tryz.isAgg202
  z138 := Tryz.sizeOf202
  v138 := Tryz.zeroValue202
  t139 := Tryz.underlying203
  a139 := Tryz.isAgg203
  z139 := Tryz.sizeOf203
  v139 := Tryz.zeroValue203
  t146 := Tryz.underlying205
  a146 := Tryz.isAgg205
  z146 := Tryz.sizeOf205
  v146 := Tryz.zeroValue205
  g1 := by kernel_rfl
  g3 := by kernel_rfl
  g4 := by kernel_rfl }
def Tryz.lays146_ren : Go.Shelf.Ren := ⟨fun | 146 => 101 | 221 => 139 | 268 => 175 | 138 => 104 | 143 => 149 | 195 => 147 | 197 => 177 | 218 => 148 | 219 => 180 | 260 => 207 | 217 => 210 | 225 => 211 | 224 => 212 | 267 => 213 | 266 => 228 | 314 => 229 | n => n, fun | 9 => 9 | 31 => 22 | 3 => 3 | 4 => 4 | 0 => 0 | 105 => 168 | 21 => 21 | 5 => 5 | 46 => 117 | 119 => 200 | 139 => 203 | 138 => 202 | 146 => 205 | 51 => 150 | n => n, fun | 1 => 0 | 3 => 1 | 4 => 2 | n => n⟩
theorem Tryz.lays146 : Go.Proofs.Lays.n146 Tryz.prog Tryz.lays146_ren := {
  mixed := by kernel_rfl
  f138 := Tryz.func104.trans (congrArg some (by kernel_rfl))
  f143 := Tryz.func149.trans (congrArg some (by kernel_rfl))
  f146 := Tryz.func101.trans (congrArg some (by kernel_rfl))
  f195 := Tryz.func147.trans (congrArg some (by kernel_rfl))
  f197 := Tryz.func177.trans (congrArg some (by kernel_rfl))
  f217 := Tryz.func210.trans (congrArg some (by kernel_rfl))
  f218 := Tryz.func148.trans (congrArg some (by kernel_rfl))
  f219 := Tryz.func180.trans (congrArg some (by kernel_rfl))
  f221 := Tryz.func139.trans (congrArg some (by kernel_rfl))
  f224 := Tryz.func212.trans (congrArg some (by kernel_rfl))
  f225 := Tryz.func211.trans (congrArg some (by kernel_rfl))
  f260 := Tryz.func207.trans (congrArg some (by kernel_rfl))
  f266 := Tryz.func228.trans (congrArg some (by kernel_rfl))
  f267 := Tryz.func213.trans (congrArg some (by kernel_rfl))
  f268 := Tryz.func175.trans (congrArg some (by kernel_rfl))
  f314 := Tryz.func229.trans (congrArg some (by kernel_rfl))
  t0 := Tryz.underlying0
  a0 := Tryz.isAgg0
  z0 := Tryz.sizeOf0
  v0 := Tryz.zeroValue0
  t3 := Tryz.underlying3
  a3 := Tryz.isAgg3
  z3 := Tryz.sizeOf3
  v3 := Tryz.zeroValue3
  t4 := Tryz.underlying4
  a4 := Tryz.isAgg4
  z4 := Tryz.sizeOf4
  v4 := Tryz.zeroValue4
  t5 := Tryz.underlying5
  a5 := Tryz.isAgg5
  z5 := Tryz.sizeOf5
  v5 := Tryz.zeroValue5
  t9 := Tryz.underlying9
  a9 := Tryz.isAgg9
  z9 := Tryz.sizeOf9
  v9 := Tryz.zeroValue9
  t21 := Tryz.underlying21
  a21 := Tryz.isAgg21
  z21 := Tryz.sizeOf21
  v21 := Tryz.zeroValue21
  t31 := Tryz.underlying22
  a31 := Tryz.isAgg22
  z31 := Tryz.sizeOf22
  v31 := Tryz.zeroValue22
  t46 := Tryz.underlying117
  a46 := Tryz.isAgg117
  z46 := Tryz.sizeOf117
  v46 := Tryz.zeroValue117
  t51 := Tryz.underlying150
  a51 := Tryz.isAgg150
  z51 := Tryz.sizeOf150
  v51 := Tryz.zeroValue150
  t105 := Tryz.underlying168
  a105 := Tryz.isAgg168
  z105 := Tryz.sizeOf168
  v105 := Tryz.zeroValue168
  t119 := Tryz.underlying200
  a119 := Tryz.isAgg200
  z119 := Tryz.sizeOf200
  t138 := Tryz.underlying202
  a138 := Tryz.isAgg202
  z138 := Tryz.sizeOf202
  v138 := Tryz.zeroValue202
  t139 := Tryz.underlying203
  a139 := Tryz.isAgg203
  z139 := Tryz.sizeOf203
  v139 := Tryz.zeroValue203
  t146 := Tryz.underlying205
  a146 := Tryz.isAgg205
  z146 := Tryz.sizeOf205
  v146 := Tryz.zeroValue205
  g1 := by kernel_rfl
  g3 := by kernel_rfl
  g4 := by kernel_rfl }
open Go.RowKit Go.Lib in
theorem Tryz.strings_Split (s sep : ByteArray) (m : Int) (w : World) (hs : s.size < 4294967281) (hm : w.cell? ⟨0, 0, none⟩ = some (.int .i64 m)) (h1 : 1 ≤ sep.size) :
    Calls Tryz.prog 101 #[.string s, .string sep] w fun e w' =>
      e = .returned (.slice (some ⟨w.heap.size, 0, none⟩) (Lib.countB s sep + 1) (Lib.countB s sep + 1)) ∧ w' = w.alloc (.cells ((Lib.splitB sep 0 (Lib.countB s sep) s).map Value.string).toArray 9) := Any.strings_Split Tryz.lays146 (by kernel_rfl) s sep m w hs hm h1
def Tryz.lays114_ren : Go.Shelf.Ren := ⟨fun | 114 => 184 | n => n, fun | 28 => 28 | 3 => 3 | 4 => 4 | 9 => 9 | 20 => 20 | 0 => 0 | n => n, fun | n => n⟩
theorem Tryz.lays114 : Go.Proofs.Lays.n114 Tryz.prog Tryz.lays114_ren := {
  mixed := by kernel_rfl
  f114 := Tryz.func184.trans (congrArg some (by kernel_rfl))
  t0 := Tryz.underlying0
  a0 := Tryz.isAgg0
  z0 := Tryz.sizeOf0
  v0 := Tryz.zeroValue0
  t3 := Tryz.underlying3
  a3 := Tryz.isAgg3
  z3 := Tryz.sizeOf3
  v3 := Tryz.zeroValue3
  t4 := Tryz.underlying4
  a4 := Tryz.isAgg4
  z4 := Tryz.sizeOf4
  v4 := Tryz.zeroValue4
  t9 := Tryz.underlying9
  a9 := Tryz.isAgg9
  z9 := Tryz.sizeOf9
  v9 := Tryz.zeroValue9
  t20 := Tryz.underlying20
  a20 := Tryz.isAgg20
  z20 := Tryz.sizeOf20
  v20 := Tryz.zeroValue20
  t28 := Tryz.underlying28
  a28 := Tryz.isAgg28
  z28 := Tryz.sizeOf28
  v28 := Tryz.zeroValue28 }
open Go.Lib in
theorem Tryz.slices_Min_int (b off n c : Nat) (zs : List Int) (w : World) (hn : 0 < n) (hz : n ≤ zs.length) (hbig : n ≤ 9223372036854775807) (hc : ∀ j, j < zs.length → w.cell? ⟨b, off + j, none⟩ = some (.int .i64 (zs.getD j 0))) :
    Calls Tryz.prog 184 #[.slice (some ⟨b, off, none⟩) n c] w fun e w' => e = .returned (.int .i64 (Lib.minOf (zs.take n))) ∧ w' = w := Any.slices_Min_int Tryz.lays114 b off n c zs w hn hz hbig hc
def Tryz.laysSlE041_f238_ren : Go.Shelf.Ren := ⟨fun | 41 => 238 | n => n, fun | 22 => 60 | 23 => 5 | 4 => 4 | n => n, fun | n => n⟩
theorem Tryz.laysSlE041_f238 : Go.Proofs.SlLaysE0.n41 Tryz.prog Tryz.laysSlE041_f238_ren := {
  mixed := by kernel_rfl
  f41 := ⟨Tryz.f238.name, by decide, Tryz.func238.trans (congrArg some (by kernel_rfl))⟩
  t4 := Tryz.underlying4
  a4 := Tryz.isAgg4
  z4 := Tryz.sizeOf4
  v4 := Tryz.zeroValue4
  t22 := Tryz.underlying60
  a22 := Tryz.isAgg60
  z22 := Tryz.sizeOf60
  v22 := Tryz.zeroValue60 }
open Go.RowKit Go.Lib in
theorem Tryz.slices_Clone_f238 (i0 : TypeInfo) (z : Value) (size bytes : Nat) (hi : Tryz.prog.info? 5 = some i0) (hz0 : i0.zero = some z) (hz1 : i0.size = size) (hz2 : i0.bytes = bytes) (hzs : z.cells.size = size) (hsz : 0 < size) (z23 : ∀ w, (Go.sizeOf 5).run Tryz.prog w = .ok size w) (b off n c : Nat) (news : List Value) (w : World) (hl : news.length = n * size) (hn : n ≤ maxLen) (hbig : n * bytes ≤ 140737488355328) (hc : ∀ j u, news[j]? = some u → w.cell? ⟨b, off + j, none⟩ = some u) (h1 : ∀ u ∈ news, u.oneCell' = true) :
    Calls Tryz.prog 238 #[.slice (some ⟨b, off, none⟩) n c] w fun e w' => ∃ v', e = .returned v' ∧ w'.ownsRow w.heap.size 5 size v' n news ∧ v' ≠ .slice none 0 0 ∧ Below w.heap.size w w' := AnyE.slices_Clone Tryz.laysSlE041_f238 i0 z size bytes hi hz0 hz1 hz2 hzs hsz z23 b off n c news w hl hn hbig hc h1
def Tryz.laysSlH8_f194_ren : Go.Shelf.Ren := ⟨fun | 8 => 194 | 6 => 219 | n => n, fun | 22 => 28 | 23 => 3 | 25 => 85 | 4 => 4 | 3 => 3 | 0 => 0 | n => n, fun | n => n⟩
theorem Tryz.laysSlH8_f194 : Go.Proofs.SlLaysH.n8 Tryz.prog Tryz.laysSlH8_f194_ren := {
  mixed := by kernel_rfl
  f6 := ⟨Tryz.f219.name, by decide, Tryz.func219.trans (congrArg some (by kernel_rfl))⟩
  f8 := ⟨Tryz.f194.name, by decide, Tryz.func194.trans (congrArg some (by kernel_rfl))⟩
  t0 := Tryz.underlying0
  a0 := Tryz.isAgg0
  z0 := Tryz.sizeOf0
  v0 := Tryz.zeroValue0
  t3 := Tryz.underlying3
  a3 := Tryz.isAgg3
  z3 := Tryz.sizeOf3
  v3 := Tryz.zeroValue3
  t4 := Tryz.underlying4
  a4 := Tryz.isAgg4
  z4 := Tryz.sizeOf4
  v4 := Tryz.zeroValue4
  t22 := Tryz.underlying28
  a22 := Tryz.isAgg28
  z22 := Tryz.sizeOf28
  v22 := Tryz.zeroValue28
  a23 := Tryz.isAgg3
  z23 := Tryz.sizeOf3
  t25 := Tryz.underlying85
  a25 := Tryz.isAgg85
  z25 := Tryz.sizeOf85
  v25 := Tryz.zeroValue85 }
open Go.RowKit Go.Lib in
theorem Tryz.slices_ContainsFunc {α : Type} [Inhabited α] (enc : α → Value) (p : α → Bool) (g : Nat) (lb : Array Value) (eg : ∀ args w, (callFunc g args).run Tryz.prog w = .ok (.enter g args) w) (b off n c : Nat) (zs : List α) (w : World) (hp : PredAt Tryz.prog g lb enc p w) (hz : n ≤ zs.length) (hbig : n ≤ 9223372036854775807) (hc : ∀ j, j < zs.length → w.cell? ⟨b, off + j, none⟩ = some (enc zs[j]!)) :
    Calls Tryz.prog 194 #[.slice (some ⟨b, off, none⟩) n c, .func (.func g) #[] lb] w fun e w' => e = .returned (.bool ((zs.take n).any p)) ∧ ∃ q, w' = w.drewN q := AnyE.slices_ContainsFunc Tryz.laysSlH8_f194 enc p g lb eg b off n c zs w hp hz hbig hc
open Go.RowKit Go.Lib in
theorem Tryz.slices_ContainsFunc_empty {α : Type} [Inhabited α] (a : Option Addr) (c : Nat) (fv : Value) (w : World) :
    Calls Tryz.prog 194 #[.slice a 0 c, fv] w fun e w' => e = .returned (.bool false) ∧ w' = w := AnyE.slices_ContainsFunc_empty Tryz.laysSlH8_f194 a c fv w
def Tryz.laysSlF6_f182_ren : Go.Shelf.Ren := ⟨fun | 6 => 182 | 15 => 121 | 14 => 216 | 28 => 163 | 29 => 164 | 20 => 230 | 21 => 231 | 22 => 232 | 23 => 233 | 24 => 234 | 25 => 235 | 26 => 236 | 27 => 237 | 46 => 240 | 47 => 187 | 48 => 188 | 49 => 241 | 50 => 242 | 57 => 243 | n => n, fun | 22 => 40 | 24 => 28 | 25 => 172 | 3 => 3 | 39 => 117 | 0 => 0 | 53 => 150 | 55 => 152 | 4 => 4 | 46 => 144 | 45 => 143 | 50 => 35 | 5 => 5 | 9 => 9 | 66 => 174 | 70 => 178 | 76 => 191 | 77 => 192 | n => n, fun | n => n⟩
theorem Tryz.laysSlF6_f182 : Go.Proofs.SlLaysF.n6 Tryz.prog Tryz.laysSlF6_f182_ren := {
  mixed := by kernel_rfl
  f6 := ⟨Tryz.f182.name, by decide, Tryz.func182.trans (congrArg some (by kernel_rfl))⟩
  f14 := ⟨Tryz.f216.name, by decide, Tryz.func216.trans (congrArg some (by kernel_rfl))⟩
  f15 := Tryz.func121.trans (congrArg some (by kernel_rfl))
  f20 := ⟨Tryz.f230.name, by decide, Tryz.func230.trans (congrArg some (by kernel_rfl))⟩
  f21 := ⟨Tryz.f231.name, by decide, Tryz.func231.trans (congrArg some (by kernel_rfl))⟩
  f22 := ⟨Tryz.f232.name, by decide, Tryz.func232.trans (congrArg some (by kernel_rfl))⟩
  f23 := ⟨Tryz.f233.name, by decide, Tryz.func233.trans (congrArg some (by kernel_rfl))⟩
  f24 := ⟨Tryz.f234.name, by decide, Tryz.func234.trans (congrArg some (by kernel_rfl))⟩
  f25 := ⟨Tryz.f235.name, by decide, Tryz.func235.trans (congrArg some (by kernel_rfl))⟩
  f26 := ⟨Tryz.f236.name, by decide, Tryz.func236.trans (congrArg some (by kernel_rfl))⟩
  f27 := ⟨Tryz.f237.name, by decide, Tryz.func237.trans (congrArg some (by kernel_rfl))⟩
  f28 := Tryz.func163.trans (congrArg some (by kernel_rfl))
  f29 := Tryz.func164.trans (congrArg some (by kernel_rfl))
  f46 := ⟨Tryz.f240.name, by decide, Tryz.func240.trans (congrArg some (by kernel_rfl))⟩
  f47 := Tryz.func187.trans (congrArg some (by kernel_rfl))
  f48 := Tryz.func188.trans (congrArg some (by kernel_rfl))
  f49 := ⟨Tryz.f241.name, by decide, Tryz.func241.trans (congrArg some (by kernel_rfl))⟩
  f50 := ⟨Tryz.f242.name, by decide, Tryz.func242.trans (congrArg some (by kernel_rfl))⟩
  f57 := ⟨Tryz.f243.name, by decide, Tryz.func243.trans (congrArg some (by kernel_rfl))⟩
  t0 := Tryz.underlying0
  a0 := Tryz.isAgg0
  z0 := Tryz.sizeOf0
  v0 := Tryz.zeroValue0
  t3 := Tryz.underlying3
  a3 := Tryz.isAgg3
  z3 := Tryz.sizeOf3
  v3 := Tryz.zeroValue3
  t4 := Tryz.underlying4
  a4 := Tryz.isAgg4
  z4 := Tryz.sizeOf4
  v4 := Tryz.zeroValue4
  t5 := Tryz.underlying5
  a5 := Tryz.isAgg5
  z5 := Tryz.sizeOf5
  v5 := Tryz.zeroValue5
  t9 := Tryz.underlying9
  a9 := Tryz.isAgg9
  z9 := Tryz.sizeOf9
  v9 := Tryz.zeroValue9
  t22 := Tryz.underlying40
  a22 := Tryz.isAgg40
  z22 := Tryz.sizeOf40
  v22 := Tryz.zeroValue40
  a24 := Tryz.isAgg28
  z24 := Tryz.sizeOf28
  t25 := Tryz.underlying172
  a25 := Tryz.isAgg172
  z25 := Tryz.sizeOf172
  v25 := Tryz.zeroValue172
  t39 := Tryz.underlying117
  a39 := Tryz.isAgg117
  z39 := Tryz.sizeOf117
  v39 := Tryz.zeroValue117
  t45 := Tryz.underlying143
  a45 := Tryz.isAgg143
  z45 := Tryz.sizeOf143
  v45 := Tryz.zeroValue143
  t46 := Tryz.underlying144
  a46 := Tryz.isAgg144
  z46 := Tryz.sizeOf144
  v46 := Tryz.zeroValue144
  t50 := Tryz.underlying35
  a50 := Tryz.isAgg35
  z50 := Tryz.sizeOf35
  v50 := Tryz.zeroValue35
  t53 := Tryz.underlying150
  a53 := Tryz.isAgg150
  z53 := Tryz.sizeOf150
  v53 := Tryz.zeroValue150
  t55 := Tryz.underlying152
  a55 := Tryz.isAgg152
  z55 := Tryz.sizeOf152
  v55 := Tryz.zeroValue152
  t66 := Tryz.underlying174
  a66 := Tryz.isAgg174
  z66 := Tryz.sizeOf174
  v66 := Tryz.zeroValue174
  t70 := Tryz.underlying178
  a70 := Tryz.isAgg178
  z70 := Tryz.sizeOf178
  v70 := Tryz.zeroValue178
  t76 := Tryz.underlying191
  a76 := Tryz.isAgg191
  z76 := Tryz.sizeOf191
  v76 := Tryz.zeroValue191
  t77 := Tryz.underlying192
  a77 := Tryz.isAgg192
  z77 := Tryz.sizeOf192
  v77 := Tryz.zeroValue192 }
open Go.RowKit Go.Lib Go.Sort in
theorem Tryz.slices_SortFunc {α : Type} [Inhabited α] (enc : α → Value) (h1 : OneCell enc) (cf : α → α → Int) (hO : SWO (ltOf cf)) (g : Nat) (cb : Array Value) (blk off cap : Nat) (d : Array α) (w : World) (eg : ∀ args w, (callFunc g args).run Tryz.prog w = .ok (.enter g args) w) (hcmp : CmpLays1 Tryz.prog g cb enc cf blk off d.size w) (hH : Holds enc w blk off d) (hblk : blk < w.heap.size) (hsz : d.size < 4611686018427387904) :
    Calls Tryz.prog 182 #[.slice (some ⟨blk, off, none⟩) d.size cap, .func (.func g) #[] cb] w fun e w' =>
      e = .returned (.tuple #[]) ∧ ∃ d' n os, PermIn 0 d.size d d' ∧ SortedIn (ltOf cf) 0 d.size d' ∧ w' = sortWorld enc w blk off n d' os := Any.slices_SortFunc Tryz.laysSlF6_f182 enc h1 cf hO g cb blk off cap d w eg hcmp hH hblk hsz
def Tryz.laysSlF06_f182_ren : Go.Shelf.Ren := ⟨fun | 6 => 182 | 15 => 121 | 14 => 216 | 28 => 163 | 29 => 164 | 20 => 230 | 21 => 231 | 22 => 232 | 23 => 233 | 24 => 234 | 25 => 235 | 26 => 236 | 27 => 237 | 46 => 240 | 47 => 187 | 48 => 188 | 49 => 241 | 50 => 242 | 57 => 243 | n => n, fun | 22 => 40 | 24 => 28 | 25 => 172 | 3 => 3 | 39 => 117 | 0 => 0 | 53 => 150 | 55 => 152 | 4 => 4 | 46 => 144 | 45 => 143 | 50 => 35 | 5 => 5 | 9 => 9 | 66 => 174 | 70 => 178 | 76 => 191 | 77 => 192 | n => n, fun | n => n⟩
theorem Tryz.laysSlF06_f182 : Go.Proofs.SlLaysF0.n6 Tryz.prog Tryz.laysSlF06_f182_ren := {
  mixed := by kernel_rfl
  f6 := ⟨Tryz.f182.name, by decide, Tryz.func182.trans (congrArg some (by kernel_rfl))⟩
  f14 := ⟨Tryz.f216.name, by decide, Tryz.func216.trans (congrArg some (by kernel_rfl))⟩
  f15 := Tryz.func121.trans (congrArg some (by kernel_rfl))
  f20 := ⟨Tryz.f230.name, by decide, Tryz.func230.trans (congrArg some (by kernel_rfl))⟩
  f21 := ⟨Tryz.f231.name, by decide, Tryz.func231.trans (congrArg some (by kernel_rfl))⟩
  f22 := ⟨Tryz.f232.name, by decide, Tryz.func232.trans (congrArg some (by kernel_rfl))⟩
  f23 := ⟨Tryz.f233.name, by decide, Tryz.func233.trans (congrArg some (by kernel_rfl))⟩
  f24 := ⟨Tryz.f234.name, by decide, Tryz.func234.trans (congrArg some (by kernel_rfl))⟩
  f25 := ⟨Tryz.f235.name, by decide, Tryz.func235.trans (congrArg some (by kernel_rfl))⟩
  f26 := ⟨Tryz.f236.name, by decide, Tryz.func236.trans (congrArg some (by kernel_rfl))⟩
  f27 := ⟨Tryz.f237.name, by decide, Tryz.func237.trans (congrArg some (by kernel_rfl))⟩
  f28 := Tryz.func163.trans (congrArg some (by kernel_rfl))
  f29 := Tryz.func164.trans (congrArg some (by kernel_rfl))
  f46 := ⟨Tryz.f240.name, by decide, Tryz.func240.trans (congrArg some (by kernel_rfl))⟩
  f47 := Tryz.func187.trans (congrArg some (by kernel_rfl))
  f48 := Tryz.func188.trans (congrArg some (by kernel_rfl))
  f49 := ⟨Tryz.f241.name, by decide, Tryz.func241.trans (congrArg some (by kernel_rfl))⟩
  f50 := ⟨Tryz.f242.name, by decide, Tryz.func242.trans (congrArg some (by kernel_rfl))⟩
  f57 := ⟨Tryz.f243.name, by decide, Tryz.func243.trans (congrArg some (by kernel_rfl))⟩
  t0 := Tryz.underlying0
  a0 := Tryz.isAgg0
  z0 := Tryz.sizeOf0
  v0 := Tryz.zeroValue0
  t3 := Tryz.underlying3
  a3 := Tryz.isAgg3
  z3 := Tryz.sizeOf3
  v3 := Tryz.zeroValue3
  t4 := Tryz.underlying4
  a4 := Tryz.isAgg4
  z4 := Tryz.sizeOf4
  v4 := Tryz.zeroValue4
  t5 := Tryz.underlying5
  a5 := Tryz.isAgg5
  z5 := Tryz.sizeOf5
  v5 := Tryz.zeroValue5
  t9 := Tryz.underlying9
  a9 := Tryz.isAgg9
  z9 := Tryz.sizeOf9
  v9 := Tryz.zeroValue9
  t22 := Tryz.underlying40
  a22 := Tryz.isAgg40
  z22 := Tryz.sizeOf40
  v22 := Tryz.zeroValue40
  t25 := Tryz.underlying172
  a25 := Tryz.isAgg172
  z25 := Tryz.sizeOf172
  v25 := Tryz.zeroValue172
  t39 := Tryz.underlying117
  a39 := Tryz.isAgg117
  z39 := Tryz.sizeOf117
  v39 := Tryz.zeroValue117
  t45 := Tryz.underlying143
  a45 := Tryz.isAgg143
  z45 := Tryz.sizeOf143
  v45 := Tryz.zeroValue143
  t46 := Tryz.underlying144
  a46 := Tryz.isAgg144
  z46 := Tryz.sizeOf144
  v46 := Tryz.zeroValue144
  t50 := Tryz.underlying35
  a50 := Tryz.isAgg35
  z50 := Tryz.sizeOf35
  v50 := Tryz.zeroValue35
  t53 := Tryz.underlying150
  a53 := Tryz.isAgg150
  z53 := Tryz.sizeOf150
  v53 := Tryz.zeroValue150
  t55 := Tryz.underlying152
  a55 := Tryz.isAgg152
  z55 := Tryz.sizeOf152
  v55 := Tryz.zeroValue152
  t66 := Tryz.underlying174
  a66 := Tryz.isAgg174
  z66 := Tryz.sizeOf174
  v66 := Tryz.zeroValue174
  t70 := Tryz.underlying178
  a70 := Tryz.isAgg178
  z70 := Tryz.sizeOf178
  v70 := Tryz.zeroValue178
  t76 := Tryz.underlying191
  a76 := Tryz.isAgg191
  z76 := Tryz.sizeOf191
  v76 := Tryz.zeroValue191
  t77 := Tryz.underlying192
  a77 := Tryz.isAgg192
  z77 := Tryz.sizeOf192
  v77 := Tryz.zeroValue192 }
open Go.RowKit Go.Lib Go.Sort in
theorem Tryz.slices_SortFunc_none {α : Type} [Inhabited α] (p : Option Addr) (cap : Nat) (fv : Value) (w : World) :
    Calls Tryz.prog 182 #[.slice p 0 cap, fv] w fun e w' => e = .returned (.tuple #[]) ∧ w' = w := AnyF.slices_SortFunc_none Tryz.laysSlF06_f182 p cap fv w
end Go.Proofs

namespace Go.Proofs.YtdffgeoegdkiaaaGreatDoor
open Go.RowKit Go.Proofs.YtdffgeoegdkiaaaGreatDoorW.PrintWords Go.Lib
theorem genSplit_one {P : Program} {ρ : Go.Shelf.Ren} (L : Lays.n221 P ρ) (hi9 : (P.info? (ρ.t 9)).map (fun i => (i.zero, i.size, i.bytes)) = some (some (.string ByteArray.empty), 1, 16)) (s : ByteArray) (c : UInt8) (w : World) (hs : s.size < 4294967281) :
    Calls P (ρ.f 221) #[.string s, .string ⟨#[c]⟩, .int .i64 0, .int .i64 (-1)] w fun e w' =>
      e = .returned (.slice (some ⟨w.heap.size, 0, none⟩) (Lib.splitB ⟨#[c]⟩ 0 (Lib.countB s ⟨#[c]⟩) s).length (Lib.countB s ⟨#[c]⟩ + 1)) ∧ w' = w.alloc (.cells (Lib.cellsOf (Lib.splitB ⟨#[c]⟩ 0 (Lib.countB s ⟨#[c]⟩) s) (Lib.countB s ⟨#[c]⟩ + 1)) (ρ.t 9)) := by
  have hle := Lib.countB_le ⟨#[c]⟩ (show 1 ≤ 1 from Nat.le_refl _) s.size s (Nat.le_refl _)
  have h := Any.strings_genSplit_core L hi9 s ⟨#[c]⟩ 0 (-1) (Lib.countB s ⟨#[c]⟩ + 1) w hs (show 1 ≤ 1 from Nat.le_refl _) (Nat.zero_le _)
    (fun x cs hx => (Any.strings_Index_one { L with } x c _).mono fun e w' ⟨he, hw⟩ => ⟨by rw [he]; unfold Lib.indexB; rw [← Lib.index_one], hw⟩)
    (by
      refine (Any.strings_Count_one { L with } s c w).mono fun e w' ⟨he, hw⟩ => ⟨?_, hw⟩
      rw [he]
      show _ = Ending.returned (Value.int .i64 ((Lib.count s.data.toList [c] : Nat) : Int))
      rw [Lib.count_one]
      rfl) (by decide) (by decide) (by rw [if_pos (by decide)]; omega)
  rw [Nat.add_sub_cancel] at h
  exact h
theorem R_strs_new (w : World) (e : TypeId) (xs : List ByteArray) (hl : xs.length ≤ 9223372036854775807) :
    Kd.R Kd.string e (w.alloc (.cells (xs.map Value.string).toArray e)) w.heap.size (fun _ => True) (.slice (some ⟨w.heap.size, 0, none⟩) xs.length xs.length) xs :=
  ⟨fun _ _ => trivial, OwnRow.lit w _ (Kd.reps_scalar xs) (Nat.le_refl _) hl⟩
theorem one_byte_of {s : ByteArray} (h : s.size = 1) : s = ⟨#[s.data[0]'(by have : s.data.size = 1 := h; omega)]⟩ := by
  cases s with | mk d => cases d with | mk l => match l, h with | [c], _ => rfl
set_option maxHeartbeats 1000000 in
theorem splitC (s : ByteArray) (c : UInt8) (w : World) (hs : s.size < 4294967281) :
    Calls Tryz.prog 101 #[.string s, .string ⟨#[c]⟩] w fun e w' =>
      e = .returned (.slice (some ⟨w.heap.size, 0, none⟩) (Lib.countB s ⟨#[c]⟩ + 1) (Lib.countB s ⟨#[c]⟩ + 1)) ∧ w' = w.alloc (.cells ((Lib.splitB ⟨#[c]⟩ 0 (Lib.countB s ⟨#[c]⟩) s).map Value.string).toArray 9) := by
  have hle := Lib.countB_le ⟨#[c]⟩ (show 1 ≤ 1 from Nat.le_refl _) s.size s (Nat.le_refl _)
  have hlen := Lib.splitB_all ⟨#[c]⟩ (show 1 ≤ 1 from Nat.le_refl _) 0 _ s rfl
  have c1 : Calls Tryz.prog 139 #[.string s, .string ⟨#[c]⟩, .int .i64 0, .int .i64 (-1)] w fun e w' =>
      e = .returned (.slice (some ⟨w.heap.size, 0, none⟩) (Lib.splitB ⟨#[c]⟩ 0 (Lib.countB s ⟨#[c]⟩) s).length (Lib.countB s ⟨#[c]⟩ + 1)) ∧ w' = w.alloc (.cells (Lib.cellsOf (Lib.splitB ⟨#[c]⟩ 0 (Lib.countB s ⟨#[c]⟩) s) (Lib.countB s ⟨#[c]⟩ + 1)) 9) := genSplit_one Tryz.lays221 (by kernel_rfl) s c w hs
  rw [hlen] at c1
  have e2 : Lib.cellsOf (Lib.splitB ⟨#[c]⟩ 0 (Lib.countB s ⟨#[c]⟩) s) (Lib.countB s ⟨#[c]⟩ + 1) = ((Lib.splitB ⟨#[c]⟩ 0 (Lib.countB s ⟨#[c]⟩) s).map Value.string).toArray := by rw [← hlen]; exact Lib.cellsOf_full _
  rw [e2] at c1
  clear e2 hlen hle
  go_enter Tryz.func101, Tryz.ntmps101
  go_wp2_with (go_at_call 139; refine c1.mono ?_; rintro e w' ⟨rfl, hw⟩; rw [hw])
  go_ret
  exact ⟨rfl, rfl⟩
def rowsL (c : UInt8) : List UInt8 → List (List UInt8)
  | [] => [[]]
  | b :: l => if b = c then [] :: rowsL c l else (b :: (rowsL c l).headD []) :: (rowsL c l).tail
theorem rowsL_ne (c : UInt8) (l : List UInt8) : rowsL c l ≠ [] := by
  cases l with
  | nil => simp [rowsL]
  | cons b l => unfold rowsL; split <;> simp
theorem splitK_rows (c : UInt8) : ∀ l : List UInt8, Lib.splitK [c] 0 (Lib.count l [c]) l = rowsL c l
  | [] => by rw [Lib.count_one]; rfl
  | b :: l => by
    have ih := splitK_rows c l
    by_cases h : b = c
    · subst h
      rw [Lib.count_cons_eq, Nat.add_comm, Lib.splitK]
      have hix : Lib.index (b :: l) [b] = 0 := by rw [Lib.index]; simp [List.isPrefixOf]
      rw [hix]
      simp [rowsL, ih]
    · rw [Lib.count_cons_ne b c l h]
      have hp : ([c] : List UInt8).isPrefixOf (b :: l) = false := by simp [List.isPrefixOf, Ne.symm h]
      have hix : Lib.index (b :: l) [c] = if Lib.index l [c] == -1 then -1 else Lib.index l [c] + 1 := by rw [Lib.index, hp]; simp
      rw [rowsL, if_neg h, ← ih]
      cases hk : Lib.count l [c] with
      | zero => simp [Lib.splitK]
      | succ k =>
        have hm : ¬ Lib.index l [c] = -1 := fun e => by rw [Lib.count_miss e] at hk; omega
        have hge := Lib.index_ge l [c]
        obtain ⟨j, hj⟩ : ∃ j : Nat, Lib.index l [c] = j := ⟨(Lib.index l [c]).toNat, by omega⟩
        have h1 : ¬ ((j : Int) = -1) := by omega
        have h2 : ¬ ((j : Int) + 1 = -1) := by omega
        have h3 : ((j : Int) + 1).toNat = j + 1 := by omega
        rw [Lib.splitK, Lib.splitK, hix, hj]
        simp [h1, h2, h3]
def rowsB (c : UInt8) (s : ByteArray) : List ByteArray := (rowsL c s.data.toList).map fun l => ⟨l.toArray⟩
theorem splitB_rows (c : UInt8) (s : ByteArray) : Lib.splitB ⟨#[c]⟩ 0 (Lib.countB s ⟨#[c]⟩) s = rowsB c s := by
  have h := Lib.splitB_data ⟨#[c]⟩ 0 (Lib.countB s ⟨#[c]⟩) s
  have h2 : Lib.splitK [c] 0 (Lib.countB s ⟨#[c]⟩) s.data.toList = rowsL c s.data.toList := splitK_rows c _
  rw [show (⟨#[c]⟩ : ByteArray).data.toList = [c] from rfl, h2] at h
  unfold rowsB
  rw [← h, List.map_map]
  have : (fun l : List UInt8 => (⟨l.toArray⟩ : ByteArray)) ∘ (fun s : ByteArray => s.data.toList) = id := by funext x; rfl
  rw [this, List.map_id]
def strings_Split.f (s sep : ByteArray) : Option (List ByteArray) := if s.size < 4294967281 ∧ sep.size = 1 then some (rowsB (sep.data.getD 0 0) s) else none
theorem getD_one {s : ByteArray} (h : s.size = 1) : s = ⟨#[s.data.getD 0 0]⟩ := by
  have h2 : 0 < s.size := by omega
  have e2 : s.data.getD 0 0 = s.data[0]'(by have : s.data.size = 1 := h; omega) := by simp [Array.getD, h2]
  rw [e2]
  exact one_byte_of h
theorem strings_Split.calls (a0 a1 : ByteArray) (r : List ByteArray) (w : World) (h : strings_Split.f a0 a1 = some r) :
    Calls Tryz.prog 101 #[.string a0, .string a1] w fun e w' => ∃ v0_ : Value, e = .returned (v0_) ∧ Kd.R Kd.string 9 w' w.heap.size (fun _ => True) v0_ r ∧ Below w.heap.size w w' := by
  unfold strings_Split.f at h
  split at h
  · rename_i hc
    obtain ⟨hs, h1⟩ := hc
    injection h with h
    obtain ⟨c, hcc⟩ : ∃ c, a1.data.getD 0 0 = c := ⟨_, rfl⟩
    have hg := getD_one h1
    rw [hcc] at h hg
    subst hg
    have hle := Lib.countB_le ⟨#[c]⟩ (show 1 ≤ 1 from Nat.le_refl _) a0.size a0 (Nat.le_refl _)
    have hlen := Lib.splitB_all ⟨#[c]⟩ (show 1 ≤ 1 from Nat.le_refl _) 0 _ a0 rfl
    rw [splitB_rows, h] at hlen
    refine (splitC a0 c w hs).mono fun e w' ⟨he, hw⟩ => ⟨_, he, ?_, ?_⟩
    · subst hw
      rw [splitB_rows, h, ← hlen]
      exact R_strs_new w 9 r (by omega)
    · subst hw; exact below_alloc (Below.refl _ _) _
  · cases h
def asciiB (s : ByteArray) : Bool := s.data.toList.all (fun b => b.toNat < 128)
def strings_Trim.f (s cut : ByteArray) : Option ByteArray := if s.size ≤ 9223372036854775807 ∧ cut.size < 4294967281 ∧ asciiB cut = true then some ⟨(Lib.trimS s.data.toList cut.data.toList).toArray⟩ else none
theorem strings_Trim.calls (a0 a1 : ByteArray) (r : ByteArray) (w : World) (h : strings_Trim.f a0 a1 = some r) :
    Calls Tryz.prog 103 #[.string a0, .string a1] w fun e w' => e = .returned (.string r) ∧ Below w.heap.size w w' := by
  unfold strings_Trim.f at h
  split at h
  · rename_i hc
    injection h with h
    subst h
    refine Any.strings_Trim_laid Tryz.lays160 (by kernel_rfl) a0 a1 w hc.1 hc.2.1 (fun j b hb => ?_)
    have := List.all_eq_true.1 hc.2.2 b (List.mem_of_getElem? hb)
    simpa using this
  · cases h
def strings_Count.f (s sub : ByteArray) : Option Int := if sub.size = 1 then some (Lib.countByte s.data.toList (sub.data.getD 0 0)) else none
theorem strings_Count.calls (a0 a1 : ByteArray) (r : Int) (w : World) (h : strings_Count.f a0 a1 = some r) :
    Calls Tryz.prog 104 #[.string a0, .string a1] w fun e w' => e = .returned (.int .i64 r) ∧ Drawn0 w w' := by
  unfold strings_Count.f at h
  split at h
  · rename_i hc
    injection h with h
    subst h
    have := Tryz.strings_Count_one a0 (a1.data.getD 0 0) w
    rw [← getD_one hc] at this
    exact this.mono fun e w' ⟨he, hw⟩ => ⟨he, hw ▸ Drawn0.refl _⟩
  · cases h
theorem spot_of_cell {w : World} {a : Addr} {v : Value} (h : w.cell? a = some v) : a.spot = none := by
  cases hs : a.spot with
  | none => rfl
  | some s =>
    unfold World.cell? at h
    rw [hs] at h
    split at h
    · simp at h
    · cases h
theorem C_place {α : Type} {enc : α → Value} {h1 : ∀ x, (enc x).oneCell' = true} {w : World} {A : Option Addr} {n : Nat} {xs : List α} (h : (Kd.scalar enc h1).C w A n xs) (hn : 0 < n) :
    ∃ bk o, A = some ⟨bk, o, none⟩ ∧ bk < w.heap.size ∧ ∀ j x, xs[j]? = some x → w.cell? ⟨bk, o + j, none⟩ = some (enc x) := by
  obtain ⟨hl, _, hc⟩ := h
  obtain ⟨ad, rfl, hcc⟩ := hc hn
  have cell : ∀ j x, xs[j]? = some x → w.cell? (ad.add j) = some (enc x) := by
    intro j x hj
    obtain ⟨c, hcl, hR, hcell⟩ := hcc j x hj
    have hR' : c = [enc x] := hR
    subst hR'
    have := hcell 0 (enc x) rfl
    have e : j * (Kd.scalar enc h1).sz + 0 = j := by show j * 1 + 0 = j; omega
    rwa [e] at this
  have h0 : ∃ x, xs[0]? = some x := ⟨xs[0]'(by omega), List.getElem?_eq_getElem (by omega)⟩
  obtain ⟨x0, hx0⟩ := h0
  have hc0 := cell 0 x0 hx0
  obtain ⟨bk, o, sp⟩ := ad
  have hsp : sp = none := spot_of_cell hc0
  subst hsp
  refine ⟨bk, o, rfl, World.block_lt_of_cell? w _ hc0, fun j x hj => ?_⟩
  have := cell j x hj
  have e : (⟨bk, o, none⟩ : Addr).add j = ⟨bk, o + j, none⟩ := by unfold Addr.add; split <;> simp_all
  rwa [e] at this
def joinB (xs : List ByteArray) (sep : ByteArray) : ByteArray := ⟨(Lib.join (xs.map (·.data.toList)) sep.data.toList).toArray⟩
def strings_Join.f (xs : List ByteArray) (sep : ByteArray) : Option ByteArray :=
  if xs.length ≤ 140737488355328 ∧ (Lib.join (xs.map (·.data.toList)) sep.data.toList).length ≤ 140737488355328 then some (joinB xs sep) else none
theorem strings_Join.calls (A0 : Option Addr) (c0 : Nat) (l0 : List ByteArray) (a1 : ByteArray) (r : ByteArray) (w : World) (hr0 : Kd.C Kd.string w A0 l0.length l0) (hc0 : l0.length ≤ c0) (h : strings_Join.f l0 a1 = some r) :
    Calls Tryz.prog 128 #[.slice A0 l0.length c0, .string a1] w fun e w' => e = .returned (.string r) ∧ Below w.heap.size w w' := by
  unfold strings_Join.f at h
  split at h
  · rename_i hc
    injection h with h
    subst h
    rcases Nat.eq_zero_or_pos l0.length with h0 | h0
    · obtain rfl : l0 = [] := List.eq_nil_of_length_eq_zero h0
      exact (Tryz.strings_Join_none A0 c0 a1 w).mono fun e w' ⟨he, hw⟩ => ⟨he, hw ▸ Below.refl _ _⟩
    · obtain ⟨bk, o, rfl, hbk, hcells⟩ := C_place hr0 h0
      exact Tryz.strings_Join bk o c0 l0 a1 w hcells hbk hc.1 hc0 hc.2
  · cases h
def conv_bytes.f (s : ByteArray) : Option (List Int) := if s.size ≤ 9223372036854775807 then some (bytesOf s) else none
theorem conv_bytes_some {s : ByteArray} {r : List Int} (h : conv_bytes.f s = some r) : s.size ≤ 9223372036854775807 ∧ r = bytesOf s := by
  unfold conv_bytes.f at h
  split at h
  · rename_i hc; injection h with h; exact ⟨hc, h.symm⟩
  · cases h
section
variable {P : Program} {ops : Array Oper} {rest : List Oper} {o : Oper} {a : Act} {Q : Exit → Act → World → Prop} {W : World} {Kc : Act → World → Prop}
theorem conv_V (W : World) (e : TypeId) (s : ByteArray) (hmax : s.size ≤ 9223372036854775807) : Kd.V (Kd.int .u8) e (Lib.bytesWorld W e s) W.heap.size (fun k_ => W.heap.size ≤ k_) (.slice (some ⟨W.heap.size, 0, none⟩) s.size (grownCap W s.size 0 e)) (bytesOf s) := by
  have hl := bytesOf_length s
  have hcap : s.size ≤ grownCap W s.size 0 e := by
    exact grownCap_ge ..
  refine ⟨_, _, by rw [hl], by rw [hl]; exact hcap, ?_⟩
  intro W' hW'
  rw [hl]
  refine ⟨hl, hmax, fun hp => ⟨_, rfl, fun j p hj => ⟨[.int .u8 p], rfl, rfl, fun i u hu => ?_⟩⟩⟩
  have hb := hW' W.heap.size (Nat.le_refl _) (by rw [Lib.bytesWorld_size]; omega)
  have hlt : j < s.size := by
    have := (List.getElem?_eq_some_iff.1 hj).1; omega
  have hi : i = 0 := by
    cases i with
    | zero => rfl
    | succ i => simp at hu
  subst hi
  simp only [List.getElem?_cons_zero, Option.some.injEq] at hu
  subst hu
  have hc := Lib.bytesWorld_cell W e s j hlt
  have he : ((⟨W.heap.size, 0, none⟩ : Addr).add (j * (Kd.int .u8).sz + 0)) = ⟨W.heap.size, j, none⟩ := by rw [add_plain]; congr 1; show j * 1 + 0 = j; omega
  rw [he]
  have hcell : W'.cell? ⟨W.heap.size, j, none⟩ = (Lib.bytesWorld W e s).cell? ⟨W.heap.size, j, none⟩ := by
    unfold World.cell?
    rw [hb]
  rw [hcell, hc]
  unfold bytesOf at hj
  rw [List.getElem?_map, Option.map_eq_some_iff] at hj
  obtain ⟨b, hb1, hb2⟩ := hj
  rw [List.getD_eq_getElem?_getD, hb1, ← hb2]
  rfl
theorem conv_below (W : World) (e : TypeId) (s : ByteArray) : Below W.heap.size W (Lib.bytesWorld W e s) :=
  ⟨rfl, rfl, rfl, by rw [Lib.bytesWorld_size]; omega, fun i hi => Lib.bytesWorld_at_old W e s i hi⟩
theorem conv_event (hgd : o.guard = none) {N : Tmp} (_hd : o.dst = some N) (src dst e : TypeId) (x : Operand) (ho : o.op = .convert src dst x) (s : ByteArray) (hx : a.eval x = .string s)
    (hs : P.underlying src = some .string) (hdst : P.underlying dst = some (.slice e)) (he : P.underlying e = some (.int .u8)) (r : List Int) (hr : conv_bytes.f s = some r)
    (h : ∀ v w1, Kd.V (Kd.int .u8) e w1 W.heap.size (fun k_ => (W.heap.size ≤ k_)) v r → Below W.heap.size W w1 → wpList P ops Q rest (a.put o.dst v) w1) : wpList P ops Q (o :: rest) a W := by
  obtain ⟨hmax, rfl⟩ := conv_bytes_some hr
  refine Kd.event_run hgd (v := .slice (some ⟨W.heap.size, 0, none⟩) s.size (grownCap W s.size 0 e)) (w1 := Lib.bytesWorld W e s) ?_ (h _ _ (conv_V W e s hmax) (conv_below W e s))
  simp [execOp, ho, hx, Lib.run_convert_string_bytes W src dst e s hs hdst he]
theorem conv_step (hw : Region.wanted o (yielded ops a.tmps) = true) {N : Tmp} (_hd : o.dst = some N) (src dst e : TypeId) (x : Operand) (ho : o.op = .convert src dst x) (s : ByteArray) (hx : a.eval x = .string s)
    (hs : P.underlying src = some .string) (hdst : P.underlying dst = some (.slice e)) (he : P.underlying e = some (.int .u8)) (r : List Int) (hr : conv_bytes.f s = some r)
    (h : ∀ v w1, Kd.V (Kd.int .u8) e w1 W.heap.size (fun k_ => (W.heap.size ≤ k_)) v r → Below W.heap.size W w1 → Kc (a.put o.dst v) w1) : if Region.wanted o (yielded ops a.tmps) = true then Oper.wp P o a W Kc Q else Kc (a.put o.dst undef) W := by
  obtain ⟨hmax, rfl⟩ := conv_bytes_some hr
  refine event_step hw (v := .slice (some ⟨W.heap.size, 0, none⟩) s.size (grownCap W s.size 0 e)) (w1 := Lib.bytesWorld W e s) ?_ (h _ _ (conv_V W e s hmax) (conv_below W e s))
  simp [execOp, ho, hx, Lib.run_convert_string_bytes W src dst e s hs hdst he]
end
theorem blk3_ {w : World} {g : Nat} {v0 v1 v2 : Value} {t : TypeId} (h : w.heap[g]? = some (.cells #[v0, v1, v2] t (0, 0))) : w.cell? ⟨g, 0, none⟩ = some v0 ∧ w.cell? ⟨g, 1, none⟩ = some v1 ∧ w.cell? ⟨g, 2, none⟩ = some v2 ∧ w.frozen? ⟨g, 0, none⟩ = false ∧ w.frozen? ⟨g, 1, none⟩ = false ∧ w.frozen? ⟨g, 2, none⟩ = false :=
  ⟨(blk_cell h 0).trans rfl, (blk_cell h 1).trans rfl, (blk_cell h 2).trans rfl, blk_frozen h 0, blk_frozen h 1, blk_frozen h 2⟩
end Go.Proofs.YtdffgeoegdkiaaaGreatDoor

namespace Go.Proofs.YtdffgeoegdkiaaaGreatDoor
open Go.RowKit Go.Proofs.YtdffgeoegdkiaaaGreatDoorW.PrintWords
theorem w64 {n : Int} (h1 : -9223372036854775808 ≤ n) (h2 : n ≤ 9223372036854775807) : wrap64 n = n := by unfold wrap64; omega
theorem w32 {n : Int} (h1 : -2147483648 ≤ n) (h2 : n ≤ 2147483647) : wrap32 n = n := by unfold wrap32; omega
theorem getElem?_data (s : ByteArray) (i : Nat) (h : i < s.size) : s.data.toList[i]? = some (s[i]'h) := by
  have hd : i < s.data.size := h
  rw [Array.getElem?_toList, Array.getElem?_eq_getElem hd]
  rfl
theorem bytesOf_get (s : ByteArray) (i : Nat) (h : i < s.size) : (bytesOf s)[i]? = some (bt s i) := by
  unfold bytesOf bt
  rw [List.getElem?_map, getElem?_data s i h]
  simp [h]
theorem bytesOf_drop (s : ByteArray) (i : Nat) (h : i < s.size) : (bytesOf s).drop i = bt s i :: (bytesOf s).drop (i + 1) := by
  have hl : i < (bytesOf s).length := by rw [bytesOf_length]; exact h
  rw [List.drop_eq_getElem_cons hl]
  congr 1
  have := bytesOf_get s i h
  rw [List.getElem?_eq_getElem hl] at this
  exact Option.some.inj this
theorem bytesOf_all (s : ByteArray) : (bytesOf s).drop s.size = [] := by
  rw [List.drop_eq_nil_iff, bytesOf_length]; exact Nat.le_refl _
theorem bytesOf_inj {s t : ByteArray} (h : bytesOf s = bytesOf t) : s = t := by
  have hb : s.data.toList = t.data.toList := by
    have hf : ∀ a b : UInt8, (a.toNat : Int) = (b.toNat : Int) → a = b := fun a b h => UInt8.toNat_inj.1 (by omega)
    exact List.map_inj_right hf |>.1 h
  have : s.data = t.data := Array.toList_inj.1 hb
  cases s; cases t; simp_all
def rowsI (c : Int) : List Int → List (List Int)
  | [] => [[]]
  | b :: l => if b = c then [] :: rowsI c l else (b :: (rowsI c l).headD []) :: (rowsI c l).tail
theorem rowsL_rowsI (c : UInt8) : ∀ l : List UInt8, (rowsL c l).map (List.map fun b => (b.toNat : Int)) = rowsI c.toNat (l.map fun b => (b.toNat : Int))
  | [] => rfl
  | b :: l => by
    have ih := rowsL_rowsI c l
    have hne := rowsL_ne c l
    rw [List.map_cons, rowsL, rowsI]
    by_cases h : b = c
    · subst h; simp [ih]
    · have h2 : ¬ ((b.toNat : Int) = (c.toNat : Int)) := fun e => h (UInt8.toNat_inj.1 (by omega))
      rw [if_neg h, if_neg h2, ← ih]
      cases hr : rowsL c l with
      | nil => exact absurd hr hne
      | cons r rs => simp
theorem rowsB_bytes (c : UInt8) (s : ByteArray) : (rowsB c s).map bytesOf = rowsI c.toNat (bytesOf s) := by
  unfold rowsB
  rw [List.map_map]
  have : bytesOf ∘ (fun l : List UInt8 => (⟨l.toArray⟩ : ByteArray)) = List.map fun b => (b.toNat : Int) := by funext l; rfl
  rw [this, rowsL_rowsI]
  rfl
theorem rowsI_ne (c : Int) (l : List Int) : rowsI c l ≠ [] := by
  cases l with
  | nil => simp [rowsI]
  | cons b l => unfold rowsI; split <;> simp
def isNameC (c : Int) : Bool := decide (97 ≤ c) && decide (c ≤ 102)
def isBallC (c : Int) : Bool := c == 111 || isNameC c
def isCellC (c : Int) : Bool := c == 35 || c == 46 || isBallC c
def tyGo : List Int → Nat → Nat → Nat → List Int → Option (Nat × Nat × List Int)
  | [], x, w, h, cs => if (0 < h ∧ x ≠ w) ∨ x = 0 then none else some (x, h + 1, cs)
  | c :: l, x, w, h, cs => if c = 47 then (if (0 < h ∧ x ≠ w) ∨ x = 0 then none else tyGo l 0 x (h + 1) cs) else if isCellC c = true then tyGo l (x + 1) w h (cs ++ [c]) else none
def namesOk (cs : List Int) : Prop := ∀ i, i < cs.length → ∀ j, j < i → cs.getD j 0 = cs.getD i 0 → isNameC (cs.getD i 0) = false
instance (cs : List Int) : Decidable (namesOk cs) := by unfold namesOk; exact inferInstance
def tyGrid (l : List Int) : Option (Nat × Nat × List Int) :=
  if l.length > 42 then none else match tyGo l 0 0 0 [] with
  | none => none
  | some (w, h, cs) => if w ≤ 7 ∧ h ≤ 7 ∧ cs.length ≤ 36 ∧ namesOk cs then some (w, h, cs) else none
def rowsGood (w : Nat) (rs : List (List Int)) : Prop := ∀ r ∈ rs, r.length = w ∧ ∀ c ∈ r, isCellC c = true
instance (w : Nat) (rs : List (List Int)) : Decidable (rowsGood w rs) := by unfold rowsGood; exact inferInstance
theorem tyGo_rows : ∀ (l : List Int) (x w h : Nat) (cs : List Int) (r : List Int) (rs : List (List Int)), rowsI 47 l = r :: rs →
    tyGo l x w h cs = if (∀ c ∈ r, isCellC c = true) ∧ 0 < x + r.length ∧ (0 < h → x + r.length = w) ∧ rowsGood (x + r.length) rs then some (x + r.length, h + 1 + rs.length, cs ++ r ++ rs.flatten) else none
  | [], x, w, h, cs, r, rs, hr => by
    simp only [rowsI, List.cons.injEq] at hr
    obtain ⟨rfl, rfl⟩ := hr
    unfold tyGo rowsGood
    by_cases hx : (0 < h ∧ x ≠ w) ∨ x = 0
    · rw [if_pos hx, if_neg]
      rintro ⟨_, h2, h3, _⟩
      simp only [List.length_nil, Nat.add_zero] at h2 h3
      rcases hx with ⟨h4, h5⟩ | h5
      · exact h5 (h3 h4)
      · omega
    · rw [if_neg hx, if_pos]
      · simp
      · refine ⟨by simp, ?_, ?_, by simp⟩
        · simp only [List.length_nil, Nat.add_zero]; omega
        · simp only [List.length_nil, Nat.add_zero]; intro h4; omega
  | c :: l, x, w, h, cs, r, rs, hr => by
    unfold tyGo
    by_cases hc : c = 47
    · rw [if_pos hc]
      simp only [rowsI, if_pos hc, List.cons.injEq] at hr
      obtain ⟨rfl, rfl⟩ := hr
      by_cases hx : (0 < h ∧ x ≠ w) ∨ x = 0
      · rw [if_pos hx, if_neg]
        rintro ⟨_, h2, h3, _⟩
        simp only [List.length_nil, Nat.add_zero] at h2 h3
        rcases hx with ⟨h4, h5⟩ | h5
        · exact h5 (h3 h4)
        · omega
      · rw [if_neg hx]
        cases hrr : rowsI 47 l with
        | nil => exact absurd hrr (rowsI_ne _ _)
        | cons r' rs' =>
          rw [tyGo_rows l 0 x (h + 1) cs r' rs' hrr]
          simp only [Nat.zero_add, List.length_nil, Nat.add_zero, List.length_cons, List.flatten_cons, List.append_nil]
          by_cases hg : (∀ c ∈ r', isCellC c = true) ∧ 0 < r'.length ∧ (0 < h + 1 → r'.length = x) ∧ rowsGood r'.length rs'
          · have hxl := hg.2.2.1 (by omega)
            rw [if_pos hg, if_pos]
            · rw [hxl]; simp; omega
            · refine ⟨by simp, by omega, by intro h4; omega, ?_⟩
              intro q hq
              rcases List.mem_cons.1 hq with rfl | hq
              · exact ⟨hxl, hg.1⟩
              · have := hg.2.2.2 q hq; rwa [hxl] at this
          · rw [if_neg hg, if_neg]
            rintro ⟨_, h2, h3, h4⟩
            have h5 := h4 r' (List.mem_cons_self ..)
            refine hg ⟨h5.2, by omega, fun _ => h5.1, fun q hq => ?_⟩
            have := h4 q (List.mem_cons_of_mem _ hq)
            rwa [← h5.1] at this
    · rw [if_neg hc]
      simp only [rowsI, if_neg hc, List.cons.injEq] at hr
      cases hrr : rowsI 47 l with
      | nil => exact absurd hrr (rowsI_ne _ _)
      | cons r' rs' =>
        rw [hrr] at hr
        simp only [List.headD_cons, List.tail_cons] at hr
        obtain ⟨rfl, rfl⟩ := hr
        have hlen : x + 1 + r'.length = x + (c :: r').length := by simp; omega
        by_cases hcell : isCellC c = true
        · rw [if_pos hcell, tyGo_rows l (x + 1) w h (cs ++ [c]) r' rs' hrr, hlen]
          have e1 : (∀ d ∈ c :: r', isCellC d = true) ↔ (∀ d ∈ r', isCellC d = true) := by
            constructor
            · intro hh d hd; exact hh d (List.mem_cons_of_mem _ hd)
            · intro hh d hd
              rcases List.mem_cons.1 hd with rfl | hd
              · exact hcell
              · exact hh d hd
          simp only [e1, List.append_assoc, List.singleton_append, List.cons_append, List.nil_append]
        · rw [if_neg hcell, if_neg]
          rintro ⟨h1, _⟩
          exact hcell (h1 c (List.mem_cons_self ..))
theorem rowsI_length (c : Int) : ∀ (l : List Int) (r : List Int) (rs : List (List Int)), rowsI c l = r :: rs → l.length = r.length + rs.flatten.length + rs.length
  | [], r, rs, hr => by
    simp only [rowsI, List.cons.injEq] at hr
    obtain ⟨rfl, rfl⟩ := hr; rfl
  | b :: l, r, rs, hr => by
    cases hrr : rowsI c l with
    | nil => exact absurd hrr (rowsI_ne _ _)
    | cons r' rs' =>
      have ih := rowsI_length c l r' rs' hrr
      rw [rowsI, hrr] at hr
      split at hr
      · simp only [List.cons.injEq] at hr
        obtain ⟨rfl, rfl⟩ := hr
        simp only [List.length_cons, List.length_nil, List.flatten_cons, List.length_append]; omega
      · simp only [List.cons.injEq, List.headD_cons, List.tail_cons] at hr
        obtain ⟨rfl, rfl⟩ := hr
        simp only [List.length_cons]; omega
theorem rowsI_count (c n : Int) (hn : n ≠ c) : ∀ l : List Int, l.count n = (rowsI c l).flatten.count n
  | [] => by simp [rowsI]
  | b :: l => by
    have ih := rowsI_count c n hn l
    cases hrr : rowsI c l with
    | nil => exact absurd hrr (rowsI_ne _ _)
    | cons r' rs' =>
      rw [hrr] at ih
      rw [rowsI, hrr]
      split
      · rename_i hb
        subst hb
        rw [List.count_cons_of_ne (Ne.symm hn), ih]; simp
      · simp only [List.headD_cons, List.tail_cons, List.flatten_cons, List.cons_append, List.count_cons] at ih ⊢
        rw [ih]
theorem rowsGood_flatten {w : Nat} : ∀ {rs : List (List Int)}, rowsGood w rs → rs.flatten.length = w * rs.length
  | [], _ => rfl
  | r :: rs, h => by
    have h1 := (h r (List.mem_cons_self ..)).1
    have ih := rowsGood_flatten (fun q hq => h q (List.mem_cons_of_mem _ hq))
    simp only [List.flatten_cons, List.length_append, List.length_cons, ih, h1, Nat.mul_add]; omega
theorem isNameC_iff (c : Int) : isNameC c = true ↔ 97 ≤ c ∧ c ≤ 102 := by simp [isNameC]
theorem namesOk_iff (cs : List Int) : namesOk cs ↔ ∀ n : Int, 97 ≤ n → n ≤ 102 → cs.count n ≤ 1 := by
  unfold namesOk
  constructor
  · intro h n h1 h2
    rcases Nat.lt_or_ge 1 (cs.count n) with h3 | h3
    · exfalso
      have hd : ¬ (cs.filter (· == n)).Nodup := by
        intro hn
        have e : cs.filter (· == n) = List.replicate (cs.count n) n := List.filter_beq n ..
        rw [e, List.nodup_replicate] at hn
        omega
      have : ∃ i j, j < i ∧ i < cs.length ∧ cs.getD j 0 = n ∧ cs.getD i 0 = n := by
        clear h hd
        induction cs with
        | nil => simp at h3
        | cons b l ih =>
          by_cases hb : b = n
          · have h4 : 0 < l.count n := by rw [hb, List.count_cons_self] at h3; omega
            obtain ⟨i, hi, hin⟩ := List.mem_iff_getElem.1 (List.count_pos_iff.1 h4)
            exact ⟨i + 1, 0, by omega, by simp; omega, by simp [hb], by simp [hi, hin]⟩
          · rw [List.count_cons_of_ne hb] at h3
            obtain ⟨i, j, h5, h6, h7, h8⟩ := ih h3
            exact ⟨i + 1, j + 1, by omega, by simp; omega, by simpa using h7, by simpa using h8⟩
      obtain ⟨i, j, h5, h6, h7, h8⟩ := this
      have h9 := h i h6 j h5 (h7.trans h8.symm)
      have h10 := (isNameC_iff (cs.getD i 0)).2 (by rw [h8]; exact ⟨h1, h2⟩)
      rw [h9] at h10; cases h10
    · exact h3
  · intro h i hi j hj he
    cases hb : isNameC (cs.getD i 0) with
    | false => rfl
    | true =>
      exfalso
      rw [isNameC_iff] at hb
      have h1 := h _ hb.1 hb.2
      have : 2 ≤ cs.count (cs.getD i 0) := by
        clear h h1 hb
        induction cs generalizing i j with
        | nil => simp at hi
        | cons b l ih =>
          cases i with
          | zero => omega
          | succ i =>
            simp only [List.getD_cons_succ] at he ⊢
            simp only [List.length_cons] at hi
            cases j with
            | zero =>
              simp only [List.getD_cons_zero] at he
              have h4 : 0 < l.count (l.getD i 0) := by
                rw [List.count_pos_iff, List.getD_eq_getElem?_getD, List.getElem?_eq_getElem (by omega)]
                exact List.getElem_mem ..
              rw [he, List.count_cons_self]; omega
            | succ j =>
              simp only [List.getD_cons_succ] at he
              have := ih i (by omega) j (by omega) he
              rw [List.count_cons]; omega
      omega
def rowsTray (l : List Int) : Prop :=
  (1 ≤ ((rowsI 47 l).headD []).length ∧ ((rowsI 47 l).headD []).length ≤ 7) ∧ (1 ≤ (rowsI 47 l).length ∧ (rowsI 47 l).length ≤ 7) ∧ ((rowsI 47 l).headD []).length * (rowsI 47 l).length ≤ 36 ∧
  rowsGood ((rowsI 47 l).headD []).length (rowsI 47 l) ∧ ∀ n : Int, 97 ≤ n → n ≤ 102 → l.count n ≤ 1
theorem tyGo_start (l : List Int) (r : List Int) (rs : List (List Int)) (hr : rowsI 47 l = r :: rs) :
    tyGo l 0 0 0 [] = if 0 < r.length ∧ rowsGood r.length (r :: rs) then some (r.length, rs.length + 1, (r :: rs).flatten) else none := by
  rw [tyGo_rows l 0 0 0 [] r rs hr]
  simp only [Nat.zero_add, List.nil_append, List.flatten_cons]
  by_cases h : 0 < r.length ∧ rowsGood r.length (r :: rs)
  · rw [if_pos h, if_pos, Nat.add_comm]
    exact ⟨(h.2 r (List.mem_cons_self ..)).2, h.1, by omega, fun q hq => h.2 q (List.mem_cons_of_mem _ hq)⟩
  · rw [if_neg h, if_neg]
    rintro ⟨h1, h2, _, h4⟩
    refine h ⟨h2, fun q hq => ?_⟩
    rcases List.mem_cons.1 hq with rfl | hq
    · exact ⟨rfl, h1⟩
    · exact h4 q hq
theorem tyGrid_iff (l : List Int) : (tyGrid l).isSome = true ↔ rowsTray l := by
  unfold tyGrid rowsTray
  cases hr : rowsI 47 l with
  | nil => exact absurd hr (rowsI_ne _ _)
  | cons r rs =>
    have hlen := rowsI_length 47 l r rs hr
    have hcount := fun n hn => rowsI_count 47 n hn l
    rw [hr] at hcount
    rw [tyGo_start l r rs hr]
    simp only [List.headD_cons, List.length_cons]
    have hcnt : (∀ n : Int, 97 ≤ n → n ≤ 102 → l.count n ≤ 1) ↔ namesOk (r :: rs).flatten := by
      rw [namesOk_iff]
      constructor
      · intro h n h1 h2; rw [← hcount n (by omega)]; exact h n h1 h2
      · intro h n h1 h2; rw [hcount n (by omega)]; exact h n h1 h2
    rw [hcnt]
    by_cases hg : 0 < r.length ∧ rowsGood r.length (r :: rs)
    · have hf := rowsGood_flatten hg.2
      simp only [List.length_cons] at hf
      have hf2 : r.length + rs.flatten.length = r.length * (rs.length + 1) := by rw [← hf]; simp
      rw [if_pos hg]
      simp only [hf]
      by_cases h42 : l.length > 42
      · rw [if_pos h42]
        constructor
        · intro h; cases h
        · rintro ⟨_, ⟨_, h2⟩, h3, _⟩; omega
      · rw [if_neg h42]
        by_cases hc : r.length ≤ 7 ∧ rs.length + 1 ≤ 7 ∧ r.length * (rs.length + 1) ≤ 36 ∧ namesOk (r :: rs).flatten
        · rw [if_pos hc]
          constructor
          · intro _; exact ⟨⟨hg.1, hc.1⟩, ⟨by omega, hc.2.1⟩, hc.2.2.1, hg.2, hc.2.2.2⟩
          · intro _; rfl
        · rw [if_neg hc]
          constructor
          · intro h; cases h
          · rintro ⟨h1, h2, h3, _, h5⟩; exact absurd ⟨h1.2, h2.2, h3, h5⟩ hc
    · rw [if_neg hg]
      have e : (if l.length > 42 then (none : Option (Nat × Nat × List Int)) else none) = none := by split <;> rfl
      constructor
      · intro h
        split at h <;> cases h
      · rintro ⟨h1, _, _, h4, _⟩; exact absurd ⟨h1.1, h4⟩ hg
end Go.Proofs.YtdffgeoegdkiaaaGreatDoor

namespace Go.Proofs.YtdffgeoegdkiaaaGreatDoor.F
theorem aq0 {p : Prop} (h : p := by repeat (first | (with_reducible first | exact HB.out | apply below_alloc | apply pw_below_drewN | apply below_drew1 | refine below_set ?_ GE101.out) | exact HB.out)) : p := h
theorem aq1 {p : Prop} (h : p := by repeat (first | (with_reducible first | exact HB.out | apply below_alloc | apply pw_below_drewN | apply below_drew1) | exact HB.out)) : p := h
theorem aq2 {p : Prop} (h : p := by (with_reducible repeat (first | refine blk_drewN ?_ _ | refine blk_drew ?_ | refine blk_alloc ?_ _)); exact BK101.out) : p := h
theorem aq3 {p : Prop} (h : p := by first | (rw [hy_]; with_reducible exact H) | (have H2_ := (Option.bind_some _ _).symm.trans H; rw [hy_]; with_reducible exact H2_) | (have H2_ := (Option.bind_some _ _).symm.trans H; with_reducible exact H2_) | with_reducible exact H | (rw [hy_]; exact H) | exact H) : p := h
theorem aq4 {p : Prop} (h : p := by first | (with_reducible assumption) | assumption) : p := h
theorem aq5 {p : Prop} (h : p := by (try simp only [List.map_toArray, List.map_cons, List.map_nil]); first | done | rfl | (simp only [List.length_drop, List.length_take]; rfl)) : p := h
theorem aq6 {p : Prop} (h : p := by repeat (first | (with_reducible first | exact HB.out | apply below_alloc | apply pw_below_drewN | apply below_drew1 | refine below_set ?_ GE101.out | refine below_set ?_ GE102.out) | exact HB.out)) : p := h
theorem aq7 {p : Prop} (h : p := by first | rfl | (simp; done) | (simp [*]; done)) : p := h
theorem aq8 {p : Prop} (h : p := by first | rfl | (simp [errW_none, errW_some] <;> rfl) | (simp [*, errW_none, errW_some] <;> rfl)) : p := h
theorem aq9 {p : Prop} (h : p := by repeat (first | exact (Kd.C_below HR0_2.out HB.out) | (with_reducible refine Kd.C_alloc ?_ _) | (with_reducible refine Kd.C_drewN ?_ _) | (with_reducible refine Kd.C_drew ?_))) : p := h
theorem aq10 {p : Prop} (h : p := by (with_reducible repeat (first | apply Kd.R_alloc | apply Kd.R_drewN | apply Kd.R_drew)); exact HO_9.out) : p := h
theorem aq11 {p : Prop} (h : p := by repeat (first | exact Drawn0.refl _ | apply Drawn0.step)) : p := h
theorem aq12 {p : Prop} (h : p := by (with_reducible repeat (first | refine blk_drewN ?_ _ | refine blk_drew ?_ | refine blk_alloc ?_ _)); refine blk_put (cs := #[.int .i64 t102, .int .i64 t103, .slice none 0 0]) ?_ 2 _ rfl; (with_reducible repeat (first | refine blk_drewN ?_ _ | refine blk_drew ?_ | refine blk_alloc ?_ _)); refine blk_put (cs := #[.int .i64 t102, .int .i64 0, .slice none 0 0]) ?_ 1 _ rfl; (with_reducible repeat (first | refine blk_drewN ?_ _ | refine blk_drew ?_ | refine blk_alloc ?_ _)); refine blk_put (cs := #[.int .i64 0, .int .i64 0, .slice none 0 0]) ?_ 0 _ rfl; (with_reducible repeat (first | refine blk_drewN ?_ _ | refine blk_drew ?_ | refine blk_alloc ?_ _)); exact BK108.out) : p := h
theorem aq13 {p : Prop} (h : p := by (with_reducible repeat (first | refine blk_drewN ?_ _ | refine blk_drew ?_ | refine blk_alloc ?_ _)); exact BK102.out) : p := h
theorem aq14 {p : Prop} (h : p := by repeat (first | (with_reducible first | exact HB.out | apply below_alloc | apply pw_below_drewN | apply below_drew1 | refine below_set ?_ GE101.out | refine below_set ?_ GE108.out) | exact HB.out)) : p := h
theorem aq15 {p : Prop} (h : p := by repeat (first | exact (Kd.C_below HR1.out HB.out) | (with_reducible refine Kd.C_alloc ?_ _) | (with_reducible refine Kd.C_drewN ?_ _) | (with_reducible refine Kd.C_drew ?_))) : p := h
theorem aq16 {p : Prop} (h : p := by first | (go_simp; done) | (go_simp; rfl)) : p := h
theorem aq17 {p : Prop} (h : p := by repeat (first | (with_reducible first | exact HB.out | apply below_alloc | apply pw_below_drewN | apply below_drew1 | refine below_set ?_ GE107.out) | exact HB.out)) : p := h
theorem aq18 {p : Prop} (h : p := by repeat (first | (with_reducible first | exact HB.out | apply below_alloc | apply pw_below_drewN | apply below_drew1 | refine below_set ?_ GE101.out | refine below_set ?_ GE107.out) | exact HB.out)) : p := h
theorem aq19 {p : Prop} (h : p := by (with_reducible repeat (first | apply Kd.N_alloc | apply Kd.N_drewN | apply Kd.N_drew)); exact HO_5.out) : p := h
theorem aq20 {p : Prop} (h : p := by (with_reducible repeat (first | refine blk_drewN ?_ _ | refine blk_drew ?_ | refine blk_alloc ?_ _)); exact BK107.out) : p := h
theorem aq21 {p : Prop} (h : p := by (with_reducible repeat (first | apply Kd.R_alloc | apply Kd.R_drewN | apply Kd.R_drew)); exact HO_103002.out) : p := h
theorem aq22 {p : Prop} (h : p := by repeat (first | (with_reducible first | exact HB.out | apply below_alloc | apply pw_below_drewN | apply below_drew1 | refine below_set ?_ GE109.out) | exact HB.out)) : p := h
theorem aq23 {p : Prop} (h : p := by first | exact Kd.R_nil _ _ _ _ _ | exact Kd.N_nil _ _ _ _ _ | exact Kd.V_nil _ _ _ _ _ | exact Kd.Q_nil _ _ _ _ _ | exact Kd.S_nil _ _ _ _ _) : p := h
theorem aq24 {p : Prop} (h : p := by (with_reducible repeat (first | apply Kd.S_alloc | apply Kd.S_drewN | apply Kd.S_drew)); exact HO_5.out) : p := h
theorem aq25 {p : Prop} (h : p := by (with_reducible repeat (first | apply Kd.R_alloc | apply Kd.R_drewN | apply Kd.R_drew)); exact HO_8.out) : p := h
theorem aq26 {p : Prop} (h : p := by (with_reducible repeat (first | apply Kd.R_alloc | apply Kd.R_drewN | apply Kd.R_drew)); exact HO103.out) : p := h
theorem aq27 {p : Prop} (h : p := by exact Kd.M_row (Kd.R_mono (Kd.R_tight rfl (Kd.R_mono (ok' := fun k_ => ((fun _ => True)) k_ ∧ some k_ ≠ (u5 : Value).ownBlock) (Kd.R_apart' (HO_9.out) (Kd.S_typed HO_5.out) (by decide)) (fun k_ hk => ⟨trivial, hk.2⟩))) (fun _ h_ => h_))) : p := h
theorem aq28 {p : Prop} (h : p := by (with_reducible repeat (first | apply Kd.R_alloc | apply Kd.R_drewN | apply Kd.R_drew)); exact HO_108002.out) : p := h
theorem aq29 {p : Prop} (h : p := by (with_reducible repeat (first | apply Kd.R_alloc | apply Kd.R_drewN | apply Kd.R_drew)); exact HO106.out) : p := h
theorem aq30 {p : Prop} (h : p := by (with_reducible repeat (first | apply Kd.R_alloc | apply Kd.R_drewN | apply Kd.R_drew)); exact HO104.out) : p := h
theorem aq31 {p : Prop} (h : p := by (with_reducible repeat (first | refine blk_drewN ?_ _ | refine blk_drew ?_ | refine blk_alloc ?_ _)); refine blk_put (cs := #[.int .i64 0, .int .i64 0, .slice none 0 0]) ?_ 2 _ rfl; (with_reducible repeat (first | refine blk_drewN ?_ _ | refine blk_drew ?_ | refine blk_alloc ?_ _)); refine blk_put (cs := #[.int .i64 0, .int .i64 x102001_1, .slice none 0 0]) ?_ 1 _ rfl; (with_reducible repeat (first | refine blk_drewN ?_ _ | refine blk_drew ?_ | refine blk_alloc ?_ _)); refine blk_put (cs := #[.int .i64 x102000_1, .int .i64 x102001_1, .slice none 0 0]) ?_ 0 _ rfl; (with_reducible repeat (first | refine blk_drewN ?_ _ | refine blk_drew ?_ | refine blk_alloc ?_ _)); exact BK101.out) : p := h
theorem aq32 {p : Prop} (h : p := by (with_reducible repeat (first | refine blk_drewN ?_ _ | refine blk_drew ?_ | refine blk_alloc ?_ _)); refine blk_put (cs := #[.int .i64 t102, .int .i64 t103, .slice none 0 0]) ?_ 2 _ rfl; (with_reducible repeat (first | refine blk_drewN ?_ _ | refine blk_drew ?_ | refine blk_alloc ?_ _)); refine blk_put (cs := #[.int .i64 t102, .int .i64 0, .slice none 0 0]) ?_ 1 _ rfl; (with_reducible repeat (first | refine blk_drewN ?_ _ | refine blk_drew ?_ | refine blk_alloc ?_ _)); refine blk_put (cs := #[.int .i64 0, .int .i64 0, .slice none 0 0]) ?_ 0 _ rfl; (with_reducible repeat (first | refine blk_drewN ?_ _ | refine blk_drew ?_ | refine blk_alloc ?_ _)); exact BK101.out) : p := h
theorem aq33 {p : Prop} (h : p := by (with_reducible repeat (first | refine blk_drewN ?_ _ | refine blk_drew ?_ | refine blk_alloc ?_ _)); refine blk_far ?_ NB101_108.out _; (with_reducible repeat (first | refine blk_drewN ?_ _ | refine blk_drew ?_ | refine blk_alloc ?_ _)); refine blk_far ?_ NB101_108.out _; (with_reducible repeat (first | refine blk_drewN ?_ _ | refine blk_drew ?_ | refine blk_alloc ?_ _)); refine blk_far ?_ NB101_108.out _; (with_reducible repeat (first | refine blk_drewN ?_ _ | refine blk_drew ?_ | refine blk_alloc ?_ _)); exact BK101.out) : p := h
theorem aq34 {p : Prop} (h : p := by (try simp only [List.map_toArray, List.map_cons, List.map_nil]); first | done | (rw [show (l1.take (x21_2 : Int).toNat).length = x21_2.toNat from (by rw [List.length_take]; have h_ : (x21_2 : Int) ≤ (l1.length : Int) := of_decide_eq_true aq4; omega)] <;> rfl) | rfl | (simp only [List.length_drop, List.length_take]; rfl)) : p := h
theorem aq35 {p : Prop} (h : p := by (with_reducible repeat (first | refine blk_drewN ?_ _ | refine blk_drew ?_ | refine blk_alloc ?_ _)); refine blk_put (cs := #[.int .i64 t105, .int .i64 t106, .slice none 0 0]) ?_ 2 _ rfl; (with_reducible repeat (first | refine blk_drewN ?_ _ | refine blk_drew ?_ | refine blk_alloc ?_ _)); refine blk_put (cs := #[.int .i64 t105, .int .i64 0, .slice none 0 0]) ?_ 1 _ rfl; (with_reducible repeat (first | refine blk_drewN ?_ _ | refine blk_drew ?_ | refine blk_alloc ?_ _)); refine blk_put (cs := #[.int .i64 0, .int .i64 0, .slice none 0 0]) ?_ 0 _ rfl; (with_reducible repeat (first | refine blk_drewN ?_ _ | refine blk_drew ?_ | refine blk_alloc ?_ _)); refine blk_far ?_ NB101_111.out _; (with_reducible repeat (first | refine blk_drewN ?_ _ | refine blk_drew ?_ | refine blk_alloc ?_ _)); refine blk_far ?_ NB101_111.out _; (with_reducible repeat (first | refine blk_drewN ?_ _ | refine blk_drew ?_ | refine blk_alloc ?_ _)); refine blk_far ?_ NB101_111.out _; (with_reducible repeat (first | refine blk_drewN ?_ _ | refine blk_drew ?_ | refine blk_alloc ?_ _)); exact BK101.out) : p := h
theorem aq36 {p : Prop} (h : p := by repeat (first | exact (Kd.C_below HR104.out HB.out) | (with_reducible refine Kd.C_alloc ?_ _) | (with_reducible refine Kd.C_drewN ?_ _) | (with_reducible refine Kd.C_drew ?_))) : p := h
theorem aq37 {p : Prop} (h : p := by (with_reducible repeat (first | apply Kd.S_alloc | apply Kd.S_drewN | apply Kd.S_drew)); exact Kd.S_mono HO_5.out (fun k_ hk => ⟨trivial, fun e_ => hk e_⟩)) : p := h
theorem aq38 {p : Prop} (h : p := by (with_reducible repeat (first | refine blk_drewN ?_ _ | refine blk_drew ?_ | refine blk_alloc ?_ _)); exact BK109.out) : p := h
theorem aq39 {p : Prop} (h : p := by (with_reducible repeat (first | refine blk_drewN ?_ _ | refine blk_drew ?_ | refine blk_alloc ?_ _)); refine blk_put (cs := #[.int .i64 x102000_1, .int .i64 x102001_1, .slice none 0 0]) ?_ 2 _ rfl; (with_reducible repeat (first | refine blk_drewN ?_ _ | refine blk_drew ?_ | refine blk_alloc ?_ _)); refine blk_put (cs := #[.int .i64 x102000_1, .int .i64 0, .slice none 0 0]) ?_ 1 _ rfl; (with_reducible repeat (first | refine blk_drewN ?_ _ | refine blk_drew ?_ | refine blk_alloc ?_ _)); refine blk_put (cs := #[.int .i64 0, .int .i64 0, .slice none 0 0]) ?_ 0 _ rfl; (with_reducible repeat (first | refine blk_drewN ?_ _ | refine blk_drew ?_ | refine blk_alloc ?_ _)); exact BK102.out) : p := h
theorem aq40 {p : Prop} (h : p := by (with_reducible repeat (first | refine blk_drewN ?_ _ | refine blk_drew ?_ | refine blk_alloc ?_ _)); refine blk_put (cs := #[.int .i64 a0_0, .int .i64 a0_1, .slice none 0 0]) ?_ 2 _ rfl; (with_reducible repeat (first | refine blk_drewN ?_ _ | refine blk_drew ?_ | refine blk_alloc ?_ _)); refine blk_put (cs := #[.int .i64 a0_0, .int .i64 0, .slice none 0 0]) ?_ 1 _ rfl; (with_reducible repeat (first | refine blk_drewN ?_ _ | refine blk_drew ?_ | refine blk_alloc ?_ _)); refine blk_put (cs := #[.int .i64 0, .int .i64 0, .slice none 0 0]) ?_ 0 _ rfl; (with_reducible repeat (first | refine blk_drewN ?_ _ | refine blk_drew ?_ | refine blk_alloc ?_ _)); exact BK102.out) : p := h
theorem aq41 {p : Prop} (h : p := by (with_reducible repeat (first | refine blk_drewN ?_ _ | refine blk_drew ?_ | refine blk_alloc ?_ _)); refine blk_put (cs := #[.int .i64 t101, .int .i64 t102, .slice none 0 0]) ?_ 2 _ rfl; (with_reducible repeat (first | refine blk_drewN ?_ _ | refine blk_drew ?_ | refine blk_alloc ?_ _)); refine blk_put (cs := #[.int .i64 t101, .int .i64 0, .slice none 0 0]) ?_ 1 _ rfl; (with_reducible repeat (first | refine blk_drewN ?_ _ | refine blk_drew ?_ | refine blk_alloc ?_ _)); refine blk_put (cs := #[.int .i64 0, .int .i64 0, .slice none 0 0]) ?_ 0 _ rfl; (with_reducible repeat (first | refine blk_drewN ?_ _ | refine blk_drew ?_ | refine blk_alloc ?_ _)); exact BK107.out) : p := h
theorem aq42 {p : Prop} (h : p := by first | exact Kd.own_blk (Kd.R_ne HO104.out BK101.out (by decide)) | (rw [add_block]; exact Kd.own_blk (Kd.R_ne HO104.out BK101.out (by decide))) | (show (Addr.add _ _).block ≠ _; rw [add_block]; exact Kd.own_blk (Kd.R_ne HO104.out BK101.out (by decide))) | (dsimp only; exact Kd.own_blk (Kd.R_ne HO104.out BK101.out (by decide)))) : p := h
theorem aq43 {p : Prop} (h : p := by repeat (first | exact (Kd.C_below HR105.out aq0) | (with_reducible refine Kd.C_alloc ?_ _) | (with_reducible refine Kd.C_drewN ?_ _) | (with_reducible refine Kd.C_drew ?_))) : p := h
theorem aq44 {p : Prop} (h : p := by (with_reducible repeat (first | apply Kd.S_alloc | apply Kd.S_drewN | apply Kd.S_drew)); exact HO_14.out) : p := h
theorem aq45 {p : Prop} (h : p := by repeat (first | (with_reducible exact HR111.out) | (with_reducible refine Kd.C_alloc ?_ _) | (with_reducible refine Kd.C_drewN ?_ _) | (with_reducible refine Kd.C_drew ?_) | exact HR111.out)) : p := h
theorem aq46 {p : Prop} (h : p := by (with_reducible repeat (first | refine blk_drewN ?_ _ | refine blk_drew ?_ | refine blk_alloc ?_ _)); refine blk_far ?_ NB102_101.out _; (with_reducible repeat (first | refine blk_drewN ?_ _ | refine blk_drew ?_ | refine blk_alloc ?_ _)); refine blk_far ?_ NB102_101.out _; (with_reducible repeat (first | refine blk_drewN ?_ _ | refine blk_drew ?_ | refine blk_alloc ?_ _)); refine blk_far ?_ NB102_101.out _; (with_reducible repeat (first | refine blk_drewN ?_ _ | refine blk_drew ?_ | refine blk_alloc ?_ _)); exact BK102.out) : p := h
theorem aq47 {p : Prop} (h : p := by (with_reducible repeat (first | refine blk_drewN ?_ _ | refine blk_drew ?_ | refine blk_alloc ?_ _)); refine blk_far ?_ NB101_107.out _; (with_reducible repeat (first | refine blk_drewN ?_ _ | refine blk_drew ?_ | refine blk_alloc ?_ _)); refine blk_far ?_ NB101_107.out _; (with_reducible repeat (first | refine blk_drewN ?_ _ | refine blk_drew ?_ | refine blk_alloc ?_ _)); refine blk_far ?_ NB101_107.out _; (with_reducible repeat (first | refine blk_drewN ?_ _ | refine blk_drew ?_ | refine blk_alloc ?_ _)); exact BK101.out) : p := h
theorem aq48 {p : Prop} (h : p := by exact (fun k_ hk => ⟨(Nat.le_trans (below_size aq0) hk), Kd.freshB (g := gb101) (o := .cells #[.int .i64 a0_0, .int .i64 a0_1, .slice (some ad102) l0_2.length c0_2] 62 (0, 0)) aq2 k_ hk⟩)) : p := h
theorem aq49 {p : Prop} (h : p := by (with_reducible repeat (first | apply Kd.R_alloc | apply Kd.R_drewN | apply Kd.R_drew)); exact HO_3.out) : p := h
theorem aq50 {p : Prop} (h : p := by (with_reducible repeat (first | refine blk_drewN ?_ _ | refine blk_drew ?_ | refine blk_alloc ?_ _)); refine blk_put (cs := #[.int .i64 x5_1, .int .i64 x103001_1, u103002]) ?_ 1 _ rfl; (with_reducible repeat (first | refine blk_drewN ?_ _ | refine blk_drew ?_ | refine blk_alloc ?_ _)); refine blk_put (cs := #[.int .i64 x103000_1, .int .i64 x103001_1, u103002]) ?_ 0 _ rfl; (with_reducible repeat (first | refine blk_drewN ?_ _ | refine blk_drew ?_ | refine blk_alloc ?_ _)); exact BK102.out) : p := h
theorem aq51 {p : Prop} (h : p := by repeat (first | exact (Kd.R_reads' HO104.out).2.2 | (with_reducible refine Kd.C_alloc ?_ _) | (with_reducible refine Kd.C_drewN ?_ _) | (with_reducible refine Kd.C_drew ?_))) : p := h
theorem aq52 {p : Prop} (h : p := by have := HK1.out; have := HK2.out; have := HK3.out; omega) : p := h
theorem aq53 {p : Prop} (h : p := by (with_reducible repeat (first | apply Kd.S_alloc | apply Kd.S_drewN | apply Kd.S_drew)); exact Kd.S_mono HO_5.out (fun _ hk => ⟨trivial, hk⟩)) : p := h
theorem aq54 {p : Prop} (h : p := by (with_reducible repeat (first | apply Kd.V_alloc | apply Kd.V_drewN | apply Kd.V_drew)); exact HO0_2.out) : p := h
theorem aq55 {p : Prop} (h : p := by (with_reducible repeat (first | apply Kd.V_alloc | apply Kd.V_drewN | apply Kd.V_drew)); exact Kd.V_mono (Kd.V_far (p := ⟨gb102, 2, none⟩) (Kd.V_far (p := ⟨gb102, 1, none⟩) (Kd.V_far (p := ⟨gb102, 0, none⟩) (Kd.V_mono HO_102002.out (fun k_ hk => (⟨hk, hk.2.2⟩ : _ ∧ k_ ≠ gb102))) (fun _ hk => hk.2) (.int .i64 x102000_1)) (fun _ hk => hk.2) (.int .i64 x102001_1)) (fun _ hk => hk.2) (.slice Ao21 x102002_1.length co21)) (fun _ hk => hk.1.1)) : p := h
theorem aq56 {p : Prop} (h : p := by (with_reducible repeat (first | apply Kd.R_alloc | apply Kd.R_drewN | apply Kd.R_drew)); exact HO_17.out) : p := h
theorem aq57 {p : Prop} (h : p := by (with_reducible repeat (first | apply Kd.R_alloc | apply Kd.R_drewN | apply Kd.R_drew)); exact HO_14.out) : p := h
theorem aq58 {p : Prop} (h : p := by (with_reducible repeat (first | apply Kd.R_alloc | apply Kd.R_drewN | apply Kd.R_drew)); exact HO_84.out) : p := h
theorem aq59 {p : Prop} (h : p := by (with_reducible repeat (first | apply Kd.R_alloc | apply Kd.R_drewN | apply Kd.R_drew)); exact HO_4.out) : p := h
theorem aq60 {p : Prop} (h : p := by (with_reducible repeat (first | apply Kd.S_alloc | apply Kd.S_drewN | apply Kd.S_drew)); exact Kd.S_mono HO_5.out (fun _ hk => hk.2)) : p := h
theorem aq61 {p : Prop} (h : p := by repeat (first | (with_reducible exact HR112_0.out) | (with_reducible refine Kd.C_alloc ?_ _) | (with_reducible refine Kd.C_drewN ?_ _) | (with_reducible refine Kd.C_drew ?_) | exact HR112_0.out)) : p := h
theorem aq62 {p : Prop} (h : p := by (with_reducible repeat (first | refine blk_drewN ?_ _ | refine blk_drew ?_ | refine blk_alloc ?_ _)); refine blk_far ?_ NB101_102.out _; (with_reducible repeat (first | refine blk_drewN ?_ _ | refine blk_drew ?_ | refine blk_alloc ?_ _)); refine blk_far ?_ NB101_102.out _; (with_reducible repeat (first | refine blk_drewN ?_ _ | refine blk_drew ?_ | refine blk_alloc ?_ _)); exact BK101.out) : p := h
theorem aq63 {p : Prop} (h : p := by (with_reducible repeat (first | apply Kd.R_alloc | apply Kd.R_drewN | apply Kd.R_drew)); exact Kd.R_mono (Kd.R_far (p := ⟨gb107, 2, none⟩) (Kd.R_far (p := ⟨gb107, 1, none⟩) (Kd.R_far (p := ⟨gb107, 0, none⟩) (Kd.R_types HO105.out BK107.out (by decide)) (fun _ hk => hk.2) (.int .i64 t101)) (fun _ hk => hk.2) (.int .i64 t102)) (fun _ hk => hk.2) (.slice Ao10 t103.length co10)) (fun _ hk => trivial)) : p := h
theorem aq64 {p : Prop} (h : p := by have := HK1.out; have := HK2.out; omega) : p := h
theorem aq65 {p : Prop} (h : p := by (with_reducible repeat (first | apply Kd.R_alloc | apply Kd.R_drewN | apply Kd.R_drew)); exact Kd.R_mono (Kd.R_far (p := ⟨gb102, 1, none⟩) (Kd.R_far (p := ⟨gb102, 0, none⟩) (Kd.R_types HO_103002.out BK102.out (by decide)) (fun _ hk => hk.2) (.int .i64 x5_1)) (fun _ hk => hk.2) (.int .i64 (wrap64 (x103001_1 + 1)))) (fun _ hk => trivial)) : p := h
theorem aq66 {p : Prop} (h : p := by repeat (first | exact (Kd.R_reads' HO106.out).2.2 | (with_reducible refine Kd.C_alloc ?_ _) | (with_reducible refine Kd.C_drewN ?_ _) | (with_reducible refine Kd.C_drew ?_))) : p := h
theorem aq67 {p : Prop} (h : p := by repeat (first | exact (Kd.R_reads' HO103.out).2.2 | (with_reducible refine Kd.C_alloc ?_ _) | (with_reducible refine Kd.C_drewN ?_ _) | (with_reducible refine Kd.C_drew ?_))) : p := h
theorem aq68 {p : Prop} (h : p := by (with_reducible repeat (first | apply Kd.R_alloc | apply Kd.R_drewN | apply Kd.R_drew)); exact HO_11.out) : p := h
theorem aq69 {p : Prop} (h : p := by exact Kd.M_row (Kd.R_mono (Kd.R_tight rfl (Kd.R_mono (ok' := fun k_ => ((fun k_ => some k_ ≠ (.slice (some ad108) t105.length co9 : Value).ownBlock)) k_ ∧ some k_ ≠ (u5 : Value).ownBlock) (Kd.R_apart' (Kd.R_apart' (HO_8.out) (Kd.S_typed HO_14.out) (by decide)) (Kd.S_typed HO_5.out) (by decide)) (fun k_ hk => ⟨hk.1.2, hk.2⟩))) (fun _ h_ => h_))) : p := h
theorem aq70 {p : Prop} (h : p := by exact (Reps.one (show Kd.M (Kd.int .i64) _ _ _ a2 [.int .i64 a2] from rfl) (Reps.none _ _))) : p := h
theorem aq71 {p : Prop} (h : p := by (with_reducible repeat (first | apply Kd.S_alloc | apply Kd.S_drewN | apply Kd.S_drew)); exact HO104.out) : p := h
theorem aq72 {p : Prop} (h : p := by have := HK1.out; first | omega | exact Nat.le_refl _) : p := h
theorem aq73 {p : Prop} (h : p := by have := HK1.out; omega) : p := h
theorem aq74 {p : Prop} (h : p := by first | exact HLq.out | exact Kd.R_mono HLq.out (fun _ hk => ⟨hk.2, by simp [Value.ownBlock]⟩) | exact Kd.R_mono HLq.out (fun _ hk => ⟨hk.2, hk.1⟩)) : p := h
theorem aq75 {p : Prop} (h : p := by (with_reducible repeat (first | apply Kd.S_alloc | apply Kd.S_drewN | apply Kd.S_drew)); exact Kd.S_mono HO_5.out (fun _ hk => ⟨hk.2, hk.1⟩)) : p := h
theorem aq76 {p : Prop} (h : p := by (with_reducible repeat (first | refine blk_drewN ?_ _ | refine blk_drew ?_ | refine blk_alloc ?_ _)); exact BK108.out) : p := h
theorem aq77 {p : Prop} (h : p := by have := HK1.out; have := HJ47.out; have := HK3.out; have := HK4.out; omega) : p := h
theorem aq78 {p : Prop} (h : p := by exact (below_size aq0)) : p := h
theorem aq79 {p : Prop} (h : p := by (with_reducible repeat (first | apply Kx.R_alloc | apply Kx.R_drewN | apply Kx.R_drew)); exact HO_110002.out) : p := h
theorem aq80 {p : Prop} (h : p := by exact (fun _ _ => trivial)) : p := h
theorem aq81 {p : Prop} (h : p := by (with_reducible repeat (first | apply Kd.R_alloc | apply Kd.R_drewN | apply Kd.R_drew)); exact HO_34.out) : p := h
theorem aq82 {p : Prop} (h : p := by exact (fun k_ hk => ⟨(Nat.le_trans (below_size aq0) hk), Kd.fresh' (Kd.R_lt aq25) k_ hk, Kd.freshB (g := gb101) (o := .cells #[.int .i64 a0_0, .int .i64 a0_1, .slice (some ad102) l0_2.length c0_2] 62 (0, 0)) aq2 k_ hk⟩)) : p := h
theorem aq83 {p : Prop} (h : p := by repeat (first | (with_reducible first | exact HB.out | apply below_alloc | apply pw_below_drewN | apply below_drew1 | refine below_set ?_ GE101.out | refine below_set ?_ GE111.out) | exact HB.out)) : p := h
theorem aq84 {p : Prop} (h : p := by first | rfl | (simp [errW_none, errW_some] <;> rfl) | (simp only [← hji61]; first | rfl | (simp [errW_none, errW_some] <;> rfl)) | (simp [*, errW_none, errW_some] <;> rfl)) : p := h
theorem aq85 {p : Prop} (h : p := by first | rfl | (simp [errW_none, errW_some] <;> rfl) | (simp only [← hji44]; first | rfl | (simp [errW_none, errW_some] <;> rfl)) | (simp [*, errW_none, errW_some] <;> rfl)) : p := h
theorem aq86 {p : Prop} (h : p := by first | rfl | (simp [errW_none, errW_some] <;> rfl) | (simp only [← hji26]; first | rfl | (simp [errW_none, errW_some] <;> rfl)) | (simp [*, errW_none, errW_some] <;> rfl)) : p := h
theorem aq87 {p : Prop} (h : p := by first | rfl | (simp [errW_none, errW_some] <;> rfl) | (simp only [← hji8]; first | rfl | (simp [errW_none, errW_some] <;> rfl)) | (simp [*, errW_none, errW_some] <;> rfl)) : p := h
theorem aq88 {p : Prop} (h : p := by repeat (first | exact (Kd.V_reads' HO_102002.out).2.2 | (with_reducible refine Kd.C_alloc ?_ _) | (with_reducible refine Kd.C_drewN ?_ _) | (with_reducible refine Kd.C_drew ?_))) : p := h
theorem aq89 {p : Prop} (h : p := by repeat (first | exact (Kd.R_reads' HO_108002.out).2.2 | (with_reducible refine Kd.C_alloc ?_ _) | (with_reducible refine Kd.C_drewN ?_ _) | (with_reducible refine Kd.C_drew ?_))) : p := h
theorem aq90 {p : Prop} (h : p := by repeat (first | exact (Kd.R_reads' HO_11.out).2.2 | (with_reducible refine Kd.C_alloc ?_ _) | (with_reducible refine Kd.C_drewN ?_ _) | (with_reducible refine Kd.C_drew ?_))) : p := h
theorem aq91 {p : Prop} (h : p := by repeat (first | exact (Kd.R_reads' HO113.out).2.2 | (with_reducible refine Kd.C_alloc ?_ _) | (with_reducible refine Kd.C_drewN ?_ _) | (with_reducible refine Kd.C_drew ?_))) : p := h
theorem aq92 {p : Prop} (h : p := by repeat (first | exact (Kd.C_below HR2.out HB.out) | (with_reducible refine Kd.C_alloc ?_ _) | (with_reducible refine Kd.C_drewN ?_ _) | (with_reducible refine Kd.C_drew ?_))) : p := h
theorem aq93 {p : Prop} (h : p := by repeat (first | exact (Kd.R_reads' HO_8.out).2.2 | (with_reducible refine Kd.C_alloc ?_ _) | (with_reducible refine Kd.C_drewN ?_ _) | (with_reducible refine Kd.C_drew ?_))) : p := h
theorem aq94 {p : Prop} (h : p := by (with_reducible repeat (first | apply Kd.S_alloc | apply Kd.S_drewN | apply Kd.S_drew)); exact Kd.S_mono HO_5.out (fun k_ hk => ⟨hk.2, fun e_ => hk.1 e_⟩)) : p := h
theorem aq95 {p : Prop} (h : p := by repeat (first | exact (Kd.C_below HR1.out aq1) | (with_reducible refine Kd.C_alloc ?_ _) | (with_reducible refine Kd.C_drewN ?_ _) | (with_reducible refine Kd.C_drew ?_))) : p := h
theorem aq96 {p : Prop} (h : p := by (with_reducible repeat (first | apply Kd.N_alloc | apply Kd.N_drewN | apply Kd.N_drew)); exact Kd.N_mono HO_5.out (fun _ hk => ⟨⟨hk.1.1, hk.1.2.2⟩, hk.2⟩)) : p := h
theorem aq97 {p : Prop} (h : p := by have := HK1.out; have := HJ7.out; have := HK3.out; have := HK4.out; omega) : p := h
theorem aq98 {p : Prop} (h : p := by have := HJ2.out; have := HJ8.out; have := HK3.out; have := HK4.out; omega) : p := h
theorem aq99 {p : Prop} (h : p := by (with_reducible repeat (first | apply Kd.V_alloc | apply Kd.V_drewN | apply Kd.V_drew)); exact Kd.V_mono HO0_2.out (fun _ hk => ⟨hk.1.1, ⟨hk.1.2, hk.2⟩⟩)) : p := h
theorem aq100 {p : Prop} (h : p := by (with_reducible repeat (first | apply Kd.N_alloc | apply Kd.N_drewN | apply Kd.N_drew)); exact Kd.N_mono HO_5.out (fun _ hk => ⟨hk.1.1, ⟨hk.2, hk.1.2⟩⟩)) : p := h
theorem aq101 {p : Prop} (h : p := by (with_reducible repeat (first | apply Kd.R_alloc | apply Kd.R_drewN | apply Kd.R_drew)); exact Kd.R_mono HO_14.out (fun _ hk => ⟨trivial, hk⟩)) : p := h
theorem aq102 {p : Prop} (h : p := by (with_reducible repeat (first | apply Kd.S_alloc | apply Kd.S_drewN | apply Kd.S_drew)); exact Kd.S_mono HO_14.out (fun _ hk => ⟨hk.2, hk.1⟩)) : p := h
theorem aq103 {p : Prop} (h : p := by (with_reducible repeat (first | apply Kd.R_alloc | apply Kd.R_drewN | apply Kd.R_drew)); exact Kd.R_mono HO108.out (fun _ hk => trivial)) : p := h
theorem aq104 {p : Prop} (h : p := by repeat (first | exact HR1.out | (with_reducible refine Kd.C_alloc ?_ _) | (with_reducible refine Kd.C_drewN ?_ _) | (with_reducible refine Kd.C_drew ?_))) : p := h
theorem aq105 {p : Prop} (h : p := by (with_reducible repeat (first | apply Kd.R_alloc | apply Kd.R_drewN | apply Kd.R_drew)); exact Kd.R_mono HO_14.out (fun _ hk => hk.2)) : p := h
theorem aq106 {p : Prop} (h : p := by repeat (first | exact aq61 | (with_reducible refine Kd.C_alloc ?_ _) | (with_reducible refine Kd.C_drewN ?_ _) | (with_reducible refine Kd.C_drew ?_))) : p := h
theorem aq107 {p : Prop} (h : p := by first | omega | exact Nat.le_refl _) : p := h
theorem aq108 {p : Prop} (h : p := by repeat (first | (with_reducible first | exact HK.out | apply Kept.alloc | apply Kept.drewN | apply Kept.drew) | exact HK.out)) : p := h
end Go.Proofs.YtdffgeoegdkiaaaGreatDoor.F
namespace Go.Proofs.YtdffgeoegdkiaaaGreatDoor.F
open Go.Proofs.YtdffgeoegdkiaaaGreatDoor
open Go.RowKit Go.Proofs.YtdffgeoegdkiaaaGreatDoorW.PrintWords Go.Proofs.YtdffgeoegdkiaaaGreatDoorW.PrintLast Go.Proofs.YtdffgeoegdkiaaaGreatDoorW.PrintMore
attribute [local go_sem] max2_int min2_int max_two min_two max_three min_three max_four min_four
def errW : Option Int → Value
 | none => .nilIface
 | some c => .iface 0 (.int .i64 c)
theorem errW_none : errW none = .nilIface := rfl
theorem errW_some (c : Int) : errW (some c) = .iface 0 (.int .i64 c) := rfl
theorem info3 : (Tryz.prog.info? 3).map (fun i => (i.zero, i.size, i.bytes)) = some (some (.int .i64 0), 1, 8) := by kernel_rfl
theorem info5 : (Tryz.prog.info? 5).map (fun i => (i.zero, i.size, i.bytes)) = some (some (.int .u8 0), 1, 1) := by kernel_rfl
theorem info9 : (Tryz.prog.info? 9).map (fun i => (i.zero, i.size, i.bytes)) = some (some (.string ⟨#[]⟩), 1, 16) := by kernel_rfl
theorem info28 : (Tryz.prog.info? 28).map (fun i => (i.zero, i.size, i.bytes)) = some (some (.slice none 0 0), 1, 24) := by kernel_rfl
-- the values' own types
def rd_L3 (xs : List (List Int)) (i : Int) : (List Int) := xs.getD i.toNat ([] : List Int)
theorem at_L3 {w : World} {A : Option Addr} {n : Nat} {xs : List (List Int)} (h : Kd.C (Kd.slice 3 (Kd.int .i64)) w A n xs) (i : Int) (h0 : 0 ≤ i) (h1 : i < n) : ∃ ad A0 c0, A = some ad ∧ w.cell? (ad.add i.toNat) = some (.slice A0 (rd_L3 xs i).length c0) ∧ (rd_L3 xs i).length ≤ c0 ∧ (Kd.int .i64).C w A0 (rd_L3 xs i).length (rd_L3 xs i) := by
 obtain ⟨ad, c, e, _, hK, hc0⟩ := Kd.C_get h ([] : List Int) i h0 h1
 have hc : ∀ j u, c[j]? = some u → w.cell? (ad.add (i.toNat * 1 + j)) = some u := hc0
 obtain ⟨A0, c0, rfl, l0, g0⟩ := hK
 exact ⟨ad, A0, c0, e, by have hq := hc 0 _ rfl; rwa [Nat.mul_one, Nat.add_zero] at hq, l0, g0⟩
end Go.Proofs.YtdffgeoegdkiaaaGreatDoor.F

namespace Go.Proofs.YtdffgeoegdkiaaaGreatDoor.F
open Go.Proofs.YtdffgeoegdkiaaaGreatDoor
open Go.RowKit Go.Proofs.YtdffgeoegdkiaaaGreatDoorW.PrintWords Go.Proofs.YtdffgeoegdkiaaaGreatDoorW.PrintLast Go.Proofs.YtdffgeoegdkiaaaGreatDoorW.PrintMore
attribute [local go_sem] max2_int min2_int max_two min_two max_three min_three max_four min_four
def spec_tyBall.f (a0 : Int) : Option (Bool) := if a0 = 111 then (some true) else (if a0 ≥ 97 then (some (decide (a0 ≤ 102))) else (some false))
set_option maxHeartbeats 8000000 in
set_option maxRecDepth 100000 in
theorem spec_tyBall.calls (a0 : Int) (r : Bool) (w : World) (h : spec_tyBall.f a0 = some r) :
  Calls Tryz.prog 100 #[.int .u8 a0] w fun e w' => e = .returned (.bool r) ∧ Drawn0 w w' := by
 have H : (if a0 = 111 then (some true) else (if a0 ≥ 97 then (some (decide (a0 ≤ 102))) else (some false))) = some r := h
 clear h
 by_cases c2 : a0 = 111
 ·rw [if_pos c2] at H
  have c2b0 := beq_iff_eq.mpr c2
  have c2b1 := bne_eq_false_iff_eq.mpr c2
  clear c2
  obtain rfl := Option.some.inj H
  go_enter Tryz.func100, Tryz.ntmps100
  go_wp2
  go_ret
  exact ⟨aq7, aq11⟩
 ·rw [if_neg c2] at H
  have c2b0 := beq_eq_false_iff_ne.mpr c2
  have c2b1 := bne_iff_ne.mpr c2
  by_cases c3 : a0 ≥ 97
  ·rw [if_pos c3] at H
   have c3b0 := decide_eq_true c3
   clear c3
   obtain rfl := Option.some.inj H
   go_enter Tryz.func100, Tryz.ntmps100
   go_wp2
   go_ret
   exact ⟨aq7, aq11⟩
  ·rw [if_neg c3] at H
   have c3b0 := decide_eq_false c3
   clear c3
   obtain rfl := Option.some.inj H
   go_enter Tryz.func100, Tryz.ntmps100
   go_wp2
   go_ret
   exact ⟨aq7, aq11⟩
def spec_tyIs.f (a0 : Int) : Option (Bool) := if a0 = 35 then (some true) else (if a0 = 46 then (some true) else ((spec_tyBall.f a0).bind fun t101 => (some t101)))
set_option maxHeartbeats 8000000 in
set_option maxRecDepth 100000 in
theorem spec_tyIs.calls (a0 : Int) (r : Bool) (w : World) (h : spec_tyIs.f a0 = some r) :
  Calls Tryz.prog 97 #[.int .u8 a0] w fun e w' => e = .returned (.bool r) ∧ Drawn0 w w' := by
 have H : (if a0 = 35 then (some true) else (if a0 = 46 then (some true) else ((spec_tyBall.f a0).bind fun t101 => (some t101)))) = some r := h
 clear h
 by_cases c2 : a0 = 35
 ·rw [if_pos c2] at H
  have c2b0 := beq_iff_eq.mpr c2
  have c2b1 := bne_eq_false_iff_eq.mpr c2
  clear c2
  obtain rfl := Option.some.inj H
  go_enter Tryz.func97, Tryz.ntmps97
  go_wp2
  go_ret
  exact ⟨aq7, aq11⟩
 ·rw [if_neg c2] at H
  have c2b0 := beq_eq_false_iff_ne.mpr c2
  have c2b1 := bne_iff_ne.mpr c2
  by_cases c3 : a0 = 46
  ·rw [if_pos c3] at H
   have c3b0 := beq_iff_eq.mpr c3
   have c3b1 := bne_eq_false_iff_eq.mpr c3
   clear c3
   obtain rfl := Option.some.inj H
   go_enter Tryz.func97, Tryz.ntmps97
   go_wp2
   go_ret
   exact ⟨aq7, aq11⟩
  ·rw [if_neg c3] at H
   have c3b0 := beq_eq_false_iff_ne.mpr c3
   have c3b1 := bne_iff_ne.mpr c3
   obtain ⟨t101, A40, H⟩ := Option.bind_eq_some_iff.mp H
   have A4 := am A40
   clear A40
   obtain rfl := Option.some.inj H
   go_enter Tryz.func97, Tryz.ntmps97
   go_wp2_with (first | (go_at_call 100; (with_reducible refine (spec_tyBall.calls a0 t101 _ A4.out).mono ?_); rintro e w' ⟨rfl, ⟨nd, rfl⟩⟩))
   go_ret
   exact ⟨aq7, aq11⟩
mutual
def spec_tyRead.l0 : Nat → ByteArray → Int → Int → Int → Int → List Int → Option (Int × Int × List Int × Bool)
 | 0, _, _, _, _, _, _ => none
 | k + 1, x0, x5, x6, x103000, x103001, x103002 => if x6 ≤ (x0.size : Int) then (if x6 < (x0.size : Int) then (if 0 ≤ x6 then (spec_tyRead.j1 k x0 x5 x6 ((bt x0 x6) != 47) x103000 x103001 x103002) else (none)) else (spec_tyRead.j1 k x0 x5 x6 false x103000 x103001 x103002)) else (if x103000 > 7 then (spec_tyRead.j2 k true x103000 x103001 x103002) else (if x103001 > 7 then (spec_tyRead.j2 k true x103000 x103001 x103002) else (spec_tyRead.j2 k (decide ((x103002.length : Int) > 36)) x103000 x103001 x103002)))
def spec_tyRead.j1 : Nat → ByteArray → Int → Int → Bool → Int → Int → List Int → Option (Int × Int × List Int × Bool)
 | 0, _, _, _, _, _, _, _ => none
 | k + 1, x0, x5, x6, x31, x103000, x103001, x103002 => if x31 = true then (if 0 ≤ x6 then (if x6 < (x0.size : Int) then ((spec_tyIs.f (bt x0 x6)).bind fun t103 => (if t103 = true then (if x103002.length < 140737488355328 then (spec_tyRead.l0 k x0 (wrap64 (x5 + 1)) (wrap64 (x6 + 1)) x103000 x103001 (x103002 ++ [bt x0 x6])) else (none)) else (some (0, 0, ([] : List Int), false)))) else (none)) else (none)) else (if x103001 > 0 then (if x5 = x103000 then (if x5 = 0 then (some (0, 0, ([] : List Int), false)) else (spec_tyRead.l0 k x0 0 (wrap64 (x6 + 1)) x5 (wrap64 (x103001 + 1)) x103002)) else (some (0, 0, ([] : List Int), false))) else (if x5 = 0 then (some (0, 0, ([] : List Int), false)) else (spec_tyRead.l0 k x0 0 (wrap64 (x6 + 1)) x5 (wrap64 (x103001 + 1)) x103002)))
def spec_tyRead.j2 : Nat → Bool → Int → Int → List Int → Option (Int × Int × List Int × Bool)
 | 0, _, _, _, _ => none
 | k + 1, x81, x103000, x103001, x103002 => if x81 = true then (some (0, 0, ([] : List Int), false)) else (spec_tyRead.l1 k x103002 (x103002.length : Int) 0 x103000 x103001 x103002)
def spec_tyRead.l1 : Nat → List Int → Int → Int → Int → Int → List Int → Option (Int × Int × List Int × Bool)
 | 0, _, _, _, _, _, _ => none
 | k + 1, x84, x85, x86, x103000, x103001, x103002 => if x86 < x85 then (if 0 ≤ x86 then (if x86 < (x84.length : Int) then (if x86 ≤ (x103002.length : Int) then ((some (x103002.take (x86 : Int).toNat : List Int)).bind fun y108 => (spec_tyRead.l2 k (rd x84 x86) x84 x85 x86 y108 (y108.length : Int) 0 x103000 x103001 x103002)) else (none)) else (none)) else (none)) else (some (x103000, x103001, x103002, true))
def spec_tyRead.l2 : Nat → Int → List Int → Int → Int → List Int → Int → Int → Int → Int → List Int → Option (Int × Int × List Int × Bool)
 | 0, _, _, _, _, _, _, _, _, _, _ => none
 | k + 1, x8, x84, x85, x86, x94, x95, x96, x103000, x103001, x103002 => if x96 < x95 then (if 0 ≤ x96 then (if x96 < (x94.length : Int) then (if x8 = (rd x94 x96) then (if x8 ≥ 97 then (if x8 ≤ 102 then (some (0, 0, ([] : List Int), false)) else (spec_tyRead.l2 k x8 x84 x85 x86 x94 x95 (wrap64 (x96 + 1)) x103000 x103001 x103002)) else (spec_tyRead.l2 k x8 x84 x85 x86 x94 x95 (wrap64 (x96 + 1)) x103000 x103001 x103002)) else (spec_tyRead.l2 k x8 x84 x85 x86 x94 x95 (wrap64 (x96 + 1)) x103000 x103001 x103002)) else (none)) else (none)) else (spec_tyRead.l1 k x84 x85 (wrap64 (x86 + 1)) x103000 x103001 x103002)
end
def spec_tyRead.f (k : Nat) (a0 : ByteArray) : Option (Int × Int × List Int × Bool) := if (a0.size : Int) > 42 then (some (0, 0, ([] : List Int), false)) else (spec_tyRead.l0 k a0 0 0 0 0 ([] : List Int))
theorem spec_tyRead.mono_l : ∀ k, (∀ y0 y1 y2 y3 y4 y5, LeO (spec_tyRead.l0 k y0 y1 y2 y3 y4 y5) (spec_tyRead.l0 (k + 1) y0 y1 y2 y3 y4 y5)) ∧ (∀ y0 y1 y2 y3 y4 y5 y6, LeO (spec_tyRead.j1 k y0 y1 y2 y3 y4 y5 y6) (spec_tyRead.j1 (k + 1) y0 y1 y2 y3 y4 y5 y6)) ∧ (∀ y0 y1 y2 y3, LeO (spec_tyRead.j2 k y0 y1 y2 y3) (spec_tyRead.j2 (k + 1) y0 y1 y2 y3)) ∧ (∀ y0 y1 y2 y3 y4 y5, LeO (spec_tyRead.l1 k y0 y1 y2 y3 y4 y5) (spec_tyRead.l1 (k + 1) y0 y1 y2 y3 y4 y5)) ∧ (∀ y0 y1 y2 y3 y4 y5 y6 y7 y8 y9, LeO (spec_tyRead.l2 k y0 y1 y2 y3 y4 y5 y6 y7 y8 y9) (spec_tyRead.l2 (k + 1) y0 y1 y2 y3 y4 y5 y6 y7 y8 y9))
 | 0 => ⟨fun _ _ _ _ _ _ r h => by simp [spec_tyRead.l0] at h, fun _ _ _ _ _ _ _ r h => by simp [spec_tyRead.j1] at h, fun _ _ _ _ r h => by simp [spec_tyRead.j2] at h, fun _ _ _ _ _ _ r h => by simp [spec_tyRead.l1] at h, fun _ _ _ _ _ _ _ _ _ _ r h => by simp [spec_tyRead.l2] at h⟩
 | k + 1 => by
  obtain ⟨ih0, ih1, ih2, ih3, ih4⟩ := spec_tyRead.mono_l k
  refine ⟨?_, ?_, ?_, ?_, ?_⟩
  ·intro y0 y1 y2 y3 y4 y5
   unfold spec_tyRead.l0
   exact mo
  ·intro y0 y1 y2 y3 y4 y5 y6
   unfold spec_tyRead.j1
   exact mo
  ·intro y0 y1 y2 y3
   unfold spec_tyRead.j2
   exact mo
  ·intro y0 y1 y2 y3 y4 y5
   unfold spec_tyRead.l1
   exact mo
  ·intro y0 y1 y2 y3 y4 y5 y6 y7 y8 y9
   unfold spec_tyRead.l2
   exact mo
theorem spec_tyRead.mono : ∀ a0 k, LeO (spec_tyRead.f k a0) (spec_tyRead.f (k + 1) a0) := by
 intro a0 k
 obtain ⟨ih0, ih1, ih2, ih3, ih4⟩ := spec_tyRead.mono_l k
 unfold spec_tyRead.f
 exact mo
def spec_tyRead.T11 : Bool × List (List Nat × List Nat) := (true, [([], []), ([0], [0]), ([], []), ([], []), ([2, 3], [2, 3]), ([4], [4]), ([1, 5], [1, 5]), ([0, 1, 2, 3, 4, 5, 6], []), ([7, 6, 6, 0, 1, 2, 3, 4, 5, 6], [6, 7])])
def spec_tyRead.B11 : List Nat := [0, 1, 0, 0, 12, 28, 63, 127, 255]
theorem spec_tyRead.tab11 : rtab .any (opsOf Tryz.f51 11) = spec_tyRead.T11 := by kernel_rfl
theorem spec_tyRead.bits11 : waitsOk spec_tyRead.T11.2 spec_tyRead.B11 = true := by kernel_rfl
set_option maxHeartbeats 8000000 in
set_option maxRecDepth 100000 in
theorem spec_tyRead.calls (k : Nat) (a0 : ByteArray) (r1 : Int) (r2 : Int) (r3 : List Int) (r4 : Bool) (w : World) (h : spec_tyRead.f k a0 = some (r1, r2, r3, r4)) :
  Calls Tryz.prog 51 #[.string a0] w fun e w' => ∃ v2_ : Value, e = .returned (.tuple #[.agg #[.int .i64 r1, .int .i64 r2, v2_], .bool r4]) ∧ Kd.R (Kd.int .u8) 5 w' w.heap.size (fun _ => True) v2_ r3 ∧ Below w.heap.size w w' := by
 have hu62 := Tryz.underlying62
 have HB := am (Below.refl w.heap.size w)
 have H : (if (a0.size : Int) > 42 then (some (0, 0, ([] : List Int), false)) else (spec_tyRead.l0 k a0 0 0 0 0 ([] : List Int))) = some (r1, r2, r3, r4) := h
 clear h
 by_cases c2 : (a0.size : Int) > 42
 ·rw [if_pos c2] at H
  have c2b0 := decide_eq_true c2
  have c2b1 : decide (42 < a0.size) = true := decide_eq_true (by omega)
  clear c2
  simp only [Option.some.injEq, Prod.mk.injEq] at H
  obtain ⟨rfl, rfl, rfl, rfl⟩ := H
  go_enter Tryz.func51, Tryz.ntmps51
  go_wp2_with (first | ((with_reducible refine gate_dst (N := 2) rfl ?_); (try (refine gate_guard (by rfl) ?_; dsimp only)); refine box_event ?hg (N := 2) ?hd (cs := #[.int .i64 0, .int .i64 0, .slice none 0 0]) (t := 62) ?hr ?_; (case hd => rfl); (case hg => rfl); (case hr => exact aq16); intro gb101 hg w3 hbox hb; have n0_ := am (below_step aq1 hb); have n1_ := am (hbox); have n2_ := am ((by rw [hg]; exact (below_size aq1) : w.heap.size ≤ gb101)); have n3_ := am ((by rw [hg]; exact (below_size aq1) : w.heap.size ≤ gb101)); clear HB; have HB := n0_; have BK101 := n1_; have GW101 := n2_; have GE101 := n3_; clear n0_ n1_ n2_ n3_; clear hb hbox hg) | ((with_reducible refine gate_dst (N := 4) rfl ?_); (try (refine gate_guard (by rfl) ?_; dsimp only)); refine box_event ?hg (N := 4) ?hd (cs := #[.int .i64 0, .int .i64 0, .slice none 0 0]) (t := 62) ?hr ?_; (case hd => rfl); (case hg => rfl); (case hr => exact aq16); intro gb102 hg w4 hbox hb; have n0_ := am (blk_below (g := gb101) (o := .cells #[.int .i64 0, .int .i64 0, .slice none 0 0] 62 (0, 0)) aq2 hb); have n1_ := am (below_step aq0 hb); have n2_ := am (hbox); have n3_ := am ((by rw [hg]; exact (below_size aq0) : w.heap.size ≤ gb102)); have n4_ := am ((by rw [hg]; exact (below_size aq0) : w.heap.size ≤ gb102)); have n5_ := am ((by rw [hg]; exact Nat.ne_of_lt (blk_lt (g := gb101) (o := .cells #[.int .i64 0, .int .i64 0, .slice none 0 0] 62 (0, 0)) aq2) : gb101 ≠ gb102)); have n6_ := am ((by rw [hg]; exact Nat.ne_of_gt (blk_lt (g := gb101) (o := .cells #[.int .i64 0, .int .i64 0, .slice none 0 0] 62 (0, 0)) aq2) : gb102 ≠ gb101)); clear BK101; clear HB; have BK101 := n0_; have HB := n1_; have BK102 := n2_; have GW102 := n3_; have GE102 := n4_; have NB101_102 := n5_; have NB102_101 := n6_; clear n0_ n1_ n2_ n3_ n4_ n5_ n6_; clear hb hbox hg; have hnb5 := NB102_101.out; have hnc5 := NB101_102.out; obtain ⟨hcz6_0, hcz6_1, hcz6_2, hfz6_0, hfz6_1, hfz6_2⟩ := blk3_ BK102.out; obtain ⟨hcz7_0, hcz7_1, hcz7_2, hfz7_0, hfz7_1, hfz7_2⟩ := blk3_ BK101.out))
  refine bodyPost_ret (results_ct rfl _ _ gb101 62 #[.int .i64 0, .int .i64 0, .slice none 0 0] (0, 0) _ rfl (by (with_reducible repeat (first | refine blk_drewN ?_ _ | refine blk_drew ?_ | refine blk_alloc ?_ _)); refine blk_put (cs := #[.int .i64 0, .int .i64 0, .slice none 0 0]) ?_ 2 _ rfl; (with_reducible repeat (first | refine blk_drewN ?_ _ | refine blk_drew ?_ | refine blk_alloc ?_ _)); refine blk_put (cs := #[.int .i64 0, .int .i64 0, .slice none 0 0]) ?_ 1 _ rfl; (with_reducible repeat (first | refine blk_drewN ?_ _ | refine blk_drew ?_ | refine blk_alloc ?_ _)); refine blk_put (cs := #[.int .i64 0, .int .i64 0, .slice none 0 0]) ?_ 0 _ rfl; (with_reducible repeat (first | refine blk_drewN ?_ _ | refine blk_drew ?_ | refine blk_alloc ?_ _)); refine blk_far ?_ NB101_102.out _; (with_reducible repeat (first | refine blk_drewN ?_ _ | refine blk_drew ?_ | refine blk_alloc ?_ _)); refine blk_far ?_ NB101_102.out _; (with_reducible repeat (first | refine blk_drewN ?_ _ | refine blk_drew ?_ | refine blk_alloc ?_ _)); refine blk_far ?_ NB101_102.out _; (with_reducible repeat (first | refine blk_drewN ?_ _ | refine blk_drew ?_ | refine blk_alloc ?_ _)); exact BK101.out) Tryz.underlying62 rfl (by kernel_rfl)) rfl ?_
  exact ⟨_, aq8, aq23, aq6⟩
 ·rw [if_neg c2] at H
  have c2b0 := decide_eq_false c2
  have c2b1 : decide (42 < a0.size) = false := decide_eq_false (by omega)
  clear c2
  have H' := am H
  clear H
  go_enter Tryz.func51, Tryz.ntmps51
  go_wp2_with (first | ((with_reducible refine gate_dst (N := 2) rfl ?_); (try (refine gate_guard (by rfl) ?_; dsimp only)); refine box_event ?hg (N := 2) ?hd (cs := #[.int .i64 0, .int .i64 0, .slice none 0 0]) (t := 62) ?hr ?_; (case hd => rfl); (case hg => rfl); (case hr => exact aq16); intro gb101 hg w8 hbox hb; have n0_ := am (below_step aq1 hb); have n1_ := am (hbox); have n2_ := am ((by rw [hg]; exact (below_size aq1) : w.heap.size ≤ gb101)); have n3_ := am ((by rw [hg]; exact (below_size aq1) : w.heap.size ≤ gb101)); clear HB; have HB := n0_; have BK101 := n1_; have GW101 := n2_; have GE101 := n3_; clear n0_ n1_ n2_ n3_; clear hb hbox hg) | ((with_reducible refine gate_dst (N := 4) rfl ?_); (try (refine gate_guard (by rfl) ?_; dsimp only)); refine box_event ?hg (N := 4) ?hd (cs := #[.int .i64 0, .int .i64 0, .slice none 0 0]) (t := 62) ?hr ?_; (case hd => rfl); (case hg => rfl); (case hr => exact aq16); intro gb102 hg w9 hbox hb; have n0_ := am (blk_below (g := gb101) (o := .cells #[.int .i64 0, .int .i64 0, .slice none 0 0] 62 (0, 0)) aq2 hb); have n1_ := am (below_step aq0 hb); have n2_ := am (hbox); have n3_ := am ((by rw [hg]; exact (below_size aq0) : w.heap.size ≤ gb102)); have n4_ := am ((by rw [hg]; exact (below_size aq0) : w.heap.size ≤ gb102)); have n5_ := am ((by rw [hg]; exact Nat.ne_of_lt (blk_lt (g := gb101) (o := .cells #[.int .i64 0, .int .i64 0, .slice none 0 0] 62 (0, 0)) aq2) : gb101 ≠ gb102)); have n6_ := am ((by rw [hg]; exact Nat.ne_of_gt (blk_lt (g := gb101) (o := .cells #[.int .i64 0, .int .i64 0, .slice none 0 0] 62 (0, 0)) aq2) : gb102 ≠ gb101)); clear BK101; clear HB; have BK101 := n0_; have HB := n1_; have BK102 := n2_; have GW102 := n3_; have GE102 := n4_; have NB101_102 := n5_; have NB102_101 := n6_; clear n0_ n1_ n2_ n3_ n4_ n5_ n6_; clear hb hbox hg; have hnb10 := NB102_101.out; have hnc10 := NB101_102.out; obtain ⟨hcz11_0, hcz11_1, hcz11_2, hfz11_0, hfz11_1, hfz11_2⟩ := blk3_ BK102.out))
  go_loopg [5, 6] k (fun kq v5 v6 w' => ∃ (x5_1 : Int) (x6_1 : Int) (x102000_1 : Int) (x102001_1 : Int) (x103000_1 : Int) (x103001_1 : Int) (x103002_1 : List Int) (u103002 : Value), v5 = .int .i64 x5_1 ∧ v6 = .int .i64 x6_1 ∧ Aside0 (spec_tyRead.l0 kq a0 x5_1 x6_1 x103000_1 x103001_1 x103002_1 = some (r1, r2, r3, r4)) ∧ Aside0 (kq ≤ k) ∧ Aside0 (Kd.R (Kd.int .u8) 5 w' w.heap.size (fun _ => True) u103002 x103002_1) ∧ Aside0 (w'.heap[gb101]? = some (.cells #[.int .i64 x102000_1, .int .i64 x102001_1, (.slice none 0 0)] 62 (0, 0))) ∧ Aside0 (w'.heap[gb102]? = some (.cells #[.int .i64 x103000_1, .int .i64 x103001_1, u103002] 62 (0, 0))) ∧ Aside0 (Below w.heap.size w w'))
  case atStart => exact ⟨(0), (0), (0), (0), (0), (0), (([] : List Int)), (.slice none 0 0), aq7, aq7, H', ⟨Nat.le_refl _⟩, ⟨aq23⟩, ⟨by (with_reducible repeat (first | refine blk_drewN ?_ _ | refine blk_drew ?_ | refine blk_alloc ?_ _)); refine blk_far ?_ NB101_102.out _; (with_reducible repeat (first | refine blk_drewN ?_ _ | refine blk_drew ?_ | refine blk_alloc ?_ _)); refine blk_far ?_ NB101_102.out _; (with_reducible repeat (first | refine blk_drewN ?_ _ | refine blk_drew ?_ | refine blk_alloc ?_ _)); refine blk_far ?_ NB101_102.out _; (with_reducible repeat (first | refine blk_drewN ?_ _ | refine blk_drew ?_ | refine blk_alloc ?_ _)); exact BK101.out⟩, ⟨by (with_reducible repeat (first | refine blk_drewN ?_ _ | refine blk_drew ?_ | refine blk_alloc ?_ _)); refine blk_put (cs := #[.int .i64 0, .int .i64 0, .slice none 0 0]) ?_ 2 _ rfl; (with_reducible repeat (first | refine blk_drewN ?_ _ | refine blk_drew ?_ | refine blk_alloc ?_ _)); refine blk_put (cs := #[.int .i64 0, .int .i64 0, .slice none 0 0]) ?_ 1 _ rfl; (with_reducible repeat (first | refine blk_drewN ?_ _ | refine blk_drew ?_ | refine blk_alloc ?_ _)); refine blk_put (cs := #[.int .i64 0, .int .i64 0, .slice none 0 0]) ?_ 0 _ rfl; (with_reducible repeat (first | refine blk_drewN ?_ _ | refine blk_drew ?_ | refine blk_alloc ?_ _)); exact BK102.out⟩, ⟨aq6⟩⟩
  case round =>
   clear H'
   try clear c1
   try clear c2
   try clear c2b0
   try clear c2b1
   try clear p2
   try clear c5
   try clear c10
   try clear hcz11_0
   try clear hcz11_1
   try clear hcz11_2
   try clear hcz6_0
   try clear hcz6_1
   try clear hcz6_2
   try clear hcz7_0
   try clear hcz7_1
   try clear hcz7_2
   try clear hfz11_0
   try clear hfz11_1
   try clear hfz11_2
   try clear hfz6_0
   try clear hfz6_1
   try clear hfz6_2
   try clear hfz7_0
   try clear hfz7_1
   try clear hfz7_2
   obtain ⟨x5_1, x6_1, x102000_1, x102001_1, x103000_1, x103001_1, x103002_1, u103002, rfl, rfl, HA, HK1, HO_103002, BK101, BK102, HB⟩ := hrel
   cases gk with
   | zero => exact absurd HA.out (by simp [spec_tyRead.l0])
   | succ k1 =>
    have H := HA.out
    clear HA
    simp only [spec_tyRead.l0] at H
    by_cases c12 : x6_1 ≤ (a0.size : Int)
    ·rw [if_pos c12] at H
     have c12b0 := decide_eq_true c12
     clear c12
     have HC13 := am H
     clear H
     go_upto_region 8 with (fail)
     go_cut [31] (fun v31 wc => ∃ (kq : Nat) (x31_12 : Bool), v31 = .bool x31_12 ∧ Aside0 (spec_tyRead.j1 kq a0 x5_1 x6_1 x31_12 x103000_1 x103001_1 x103002_1 = some (r1, r2, r3, r4)) ∧ Aside0 (kq ≤ k1) ∧ Aside0 (Kd.R (Kd.int .u8) 5 wc w.heap.size (fun _ => True) u103002 x103002_1) ∧ Aside0 (wc.heap[gb101]? = some (.cells #[.int .i64 x102000_1, .int .i64 x102001_1, (.slice none 0 0)] 62 (0, 0))) ∧ Aside0 (wc.heap[gb102]? = some (.cells #[.int .i64 x103000_1, .int .i64 x103001_1, u103002] 62 (0, 0))) ∧ Aside0 (Below w.heap.size w wc))
     case first =>
      have H := HC13.out
      clear HC13
      by_cases c14 : x6_1 < (a0.size : Int)
      ·rw [if_pos c14] at H
       have c14b0 := decide_eq_true c14
       clear c14
       (first | rw [c14b0] | (simp only [i64_w, i32_w]; rw [c14b0]) | skip)
       by_cases c15 : 0 ≤ x6_1
       ·rw [if_pos c15] at H
        have c15b0 := decide_eq_true c15
        clear c15
        have H' := am H
        clear H
        have p16 : 0 ≤ (x6_1 : Int) := of_decide_eq_true aq4
        have q16 : x6_1 < (a0.size : Int) := of_decide_eq_true aq4
        have hx16 := bt_at a0 x6_1
        replace p16 := eq_true p16
        replace q16 := eq_true q16
        go_wp2
        go_meet
        case rel => exact ⟨_, (((bt a0 x6_1) != 47)), aq7, H', ⟨aq72⟩, ⟨aq21⟩, ⟨aq2⟩, ⟨aq13⟩, ⟨aq6⟩⟩
       ·rw [if_neg c15] at H
        exact absurd H (by simp)
      ·rw [if_neg c14] at H
       have c14b0 := decide_eq_false c14
       clear c14
       (first | rw [c14b0] | (simp only [i64_w, i32_w]; rw [c14b0]) | skip)
       have H' := am H
       clear H
       go_wp2
       go_meet
       case rel => exact ⟨_, (false), aq7, H', ⟨aq72⟩, ⟨aq21⟩, ⟨aq2⟩, ⟨aq13⟩, ⟨aq6⟩⟩
     case rest =>
      clear HC13
      try clear c1
      try clear p1
      try clear q1
      try clear hx1
      try clear c2
      try clear c2b0
      try clear c2b1
      try clear p2
      try clear c5
      try clear c10
      try clear c12
      try clear c12b0
      try clear c14
      try clear c14b0
      try clear c15
      try clear c15b0
      try clear p16
      try clear q16
      try clear hx16
      try clear hcz11_0
      try clear hcz11_1
      try clear hcz11_2
      try clear hcz6_0
      try clear hcz6_1
      try clear hcz6_2
      try clear hcz7_0
      try clear hcz7_1
      try clear hcz7_2
      try clear hfz11_0
      try clear hfz11_1
      try clear hfz11_2
      try clear hfz6_0
      try clear hfz6_1
      try clear hfz6_2
      try clear hfz7_0
      try clear hfz7_1
      try clear hfz7_2
      try clear p16
      try clear p2
      try clear q16
      obtain ⟨kq, x31_12, rfl, HA, HJ12, HO_103002, BK101, BK102, HB⟩ := hcut
      cases kq with
      | zero => exact absurd HA.out (by simp [spec_tyRead.j1])
      | succ kj12 =>
       have H := HA.out
       clear HA
       simp only [spec_tyRead.j1] at H
       by_cases c17 : x31_12 = true
       ·subst c17
        rw [if_pos rfl] at H
        by_cases c18 : 0 ≤ x6_1
        ·rw [if_pos c18] at H
         have c18b0 := decide_eq_true c18
         clear c18
         by_cases c19 : x6_1 < (a0.size : Int)
         ·rw [if_pos c19] at H
          have c19b0 := decide_eq_true c19
          clear c19
          obtain ⟨t103, A210, H⟩ := Option.bind_eq_some_iff.mp H
          have A21 := am A210
          clear A210
          by_cases c22 : t103 = true
          ·subst c22
           rw [if_pos rfl] at H
           by_cases c24 : x103002_1.length < 140737488355328
           ·rw [if_pos c24] at H
            have LMc24 := am c24
            clear c24
            obtain ⟨y104, hy_⟩ : ∃ y_ : List Int, y_ = (x103002_1 ++ [bt a0 x6_1]) := ⟨_, rfl⟩
            replace H : (spec_tyRead.l0 kj12 a0 (wrap64 (x5_1 + 1)) (wrap64 (x6_1 + 1)) x103000_1 x103001_1 y104) = some (r1, r2, r3, r4) := aq3
            have Ny104 := am hy_
            clear hy_
            have H' := am H
            clear H
            have p20 : 0 ≤ (x6_1 : Int) := of_decide_eq_true aq4
            have q20 : x6_1 < (a0.size : Int) := of_decide_eq_true aq4
            have hx20 := bt_at a0 x6_1
            replace p20 := eq_true p20
            replace q20 := eq_true q20
            try go_wp2_with (first | ((with_reducible refine gate_callee (f := 97) rfl ?_); refine goesL_ (some 35) rfl rfl Tryz.func97 (by kernel_rfl) rfl #[.int .u8 (bt a0 x6_1)] rfl aq5 ?_; (with_reducible refine (spec_tyIs.calls (bt a0 x6_1) true _ A21.out).mono ?_); rintro e w' ⟨rfl, ⟨nd, rfl⟩⟩; refine ⟨_, rfl, ?_⟩; (try (rw [drewN_self wc]; generalize hq_ : World.drewN wc _ = wc; have n0_ : Aside0 (Kd.R (Kd.int .u8) 5 wc w.heap.size (fun _ => True) u103002 x103002_1) := ⟨by rw [← hq_]; exact aq21⟩; have n1_ : Aside0 (wc.heap[gb101]? = some (.cells #[.int .i64 x102000_1, .int .i64 x102001_1, .slice none 0 0] 62 (0, 0))) := ⟨by rw [← hq_]; exact aq2⟩; have n2_ : Aside0 (wc.heap[gb102]? = some (.cells #[.int .i64 x103000_1, .int .i64 x103001_1, u103002] 62 (0, 0))) := ⟨by rw [← hq_]; exact aq13⟩; have n3_ : Aside0 (Below w.heap.size w wc) := ⟨by rw [← hq_]; exact aq6⟩; clear HO_103002 BK101 BK102 HB hq_; have HO_103002 := n0_; have BK101 := n1_; have BK102 := n2_; have HB := n3_; clear n0_ n1_ n2_ n3_))))
            have n0_ := am (Kd.R_drew HO_103002.out)
            have n1_ := am (blk_drew BK101.out)
            have n2_ := am (blk_drew BK102.out)
            have n3_ := am (below_drew1 HB.out)
            clear HO_103002
            clear BK101
            clear BK102
            clear HB
            have HO_103002 := n0_
            have BK101 := n1_
            have BK102 := n2_
            have HB := n3_
            clear n0_ n1_ n2_ n3_
            have p23 : 0 ≤ (x6_1 : Int) := of_decide_eq_true aq4
            have q23 : x6_1 < (a0.size : Int) := of_decide_eq_true aq4
            have hx23 := bt_at a0 x6_1
            replace p23 := eq_true p23
            replace q23 := eq_true q23
            refine start_ (n := 9) (S := fun w' => w'.cell? ⟨gb102, 0, none⟩ = some (.int .i64 x103000_1) ∧ w'.cell? ⟨gb102, 1, none⟩ = some (.int .i64 x103001_1) ∧ w'.cell? ⟨gb102, 2, none⟩ = some (u103002)) (ds := [8]) #[false, false, false, false, false, false, false, false, false] (by kernel_rfl) rfl rfl ⟨(blk_cell BK102.out 0).trans rfl, (blk_cell BK102.out 1).trans rfl, (blk_cell BK102.out 2).trans rfl⟩ (fun hHeld => ?_); refine with_tabW spec_tyRead.tab11 spec_tyRead.bits11 (fun HT_ HW_ => ?_)
            generalize wc.drew = w25 at HO_103002 BK101 BK102 HB hHeld ⊢
            refine pure_ (i := 0) (N := some 38) (v := ?_) (a' := ?_) (bm 9 1) rfl rfl (any_of HT_.out (by kernel_rfl)) (fun _ _ _ h => h) (Or.inl ⟨by rfl, ?_⟩) ?_ ?_
            rotate_left
            ·intro w'
             go_simp
             with_reducible rfl
            rotate_left
            ·simp only [Act.put, ac_]
             rfl
            refine pure_ (i := 2) (N := some 40) (v := ?_) (a' := ?_) (bm 9 5) rfl rfl (any_of HT_.out (by kernel_rfl)) (fun _ _ _ h => h) (Or.inl ⟨by rfl, ?_⟩) ?_ ?_
            rotate_left
            ·intro w'
             go_simp
             with_reducible rfl
            rotate_left
            ·simp only [Act.put, ac_]
             rfl
            refine pure_ (i := 3) (N := some 41) (v := ?_) (a' := ?_) (bm 9 13) rfl rfl (any_of HT_.out (by kernel_rfl)) (fun _ _ _ h => h) (Or.inl ⟨by rfl, ?_⟩) ?_ ?_
            rotate_left
            ·intro w'
             go_simp
             with_reducible rfl
            rotate_left
            ·simp only [Act.put, ac_]
             rfl
            refine take_ (i := 1) (N := some 39) (v := ?_) (a' := ?_) (bm 9 15) rfl rfl (take_ofW HT_.out HW_.out (by kernel_rfl)) (fun _ _ _ h => h) (Or.inl ⟨by rfl, ?_⟩) hHeld ?_ ?_
            rotate_left
            ·rintro w' ⟨s0, s1, s2⟩
             go_simp
             with_reducible rfl
            rotate_left
            ·simp only [Act.put, ac_]
             rfl
            refine take_ (i := 4) (N := some 42) (v := ?_) (a' := ?_) (bm 9 31) rfl rfl (take_ofW HT_.out HW_.out (by kernel_rfl)) (fun _ _ _ h => h) (Or.inl ⟨by rfl, ?_⟩) hHeld ?_ ?_
            rotate_left
            ·rintro w' ⟨s0, s1, s2⟩
             go_simp
             with_reducible rfl
            rotate_left
            ·simp only [Act.put, ac_]
             rfl
            refine one_ (i := 5) (N := some 43) (bm 9 63) rfl rfl (one_of HT_.out (by kernel_rfl)) (by decide) (fun K hK => ?_)
            refine value_ (w1 := ?_) (v := ?_) (by rfl) rfl ?_ ?_
            rotate_left 2
            ·go_simp
             constructor
             ·rfl
             ·rfl
            refine hK.out _ _ ⟨(blk_cell (blk_alloc BK102.out _) 0).trans rfl, (blk_cell (blk_alloc BK102.out _) 1).trans rfl, (blk_cell (blk_alloc BK102.out _) 2).trans rfl⟩ (fun hHeld => ?_)
            clear hK K
            refine norm_ (a' := ?_) ?_ ?_
            rotate_left
            ·show Act.put _ (some 43) _ = _
             simp only [Act.put, ac_]
             rfl
            refine one_ (i := 6) (N := some 44) (bm 9 127) rfl rfl (one_of HT_.out (by kernel_rfl)) (by decide) (fun K hK => ?_)
            refine Kd.R_append_step (Kd.int .u8) (w0 := w) w.heap.size (by rfl) (.tmp 39) (.tmp 43) 60 5 (.int .u8 0) 1 rfl Tryz.underlying60 info5 rfl (by decide) (by omega) u103002 x103002_1 (bt a0 x6_1) [.int .u8 (bt a0 x6_1)] (fun _ => True) (fun _ => False) rfl rfl ?aP (fun _ hk => hk.elim) ?aF ?aO ?aB ?aS ?aL ?_
            (case aP => exact rfl)
            (case aB => exact aq6)
            (case aF => exact aq80)
            (case aO => exact aq21)
            (case aS => exact (below_size aq6))
            (case aL => have := LMc24.out; omega)
            intro v105 w26 ho hb hg hat
            rw [← Ny104.out] at ho
            have n0_ := am (blk_grown (g := gb101) (o := .cells #[.int .i64 x102000_1, .int .i64 x102001_1, .slice none 0 0] 62 (0, 0)) aq2 hg (Kd.R_ne HO_103002.out BK101.out (by decide)))
            have n1_ := am (blk_grown (g := gb102) (o := .cells #[.int .i64 x103000_1, .int .i64 x103001_1, u103002] 62 (0, 0)) aq13 hg (Kd.R_ne HO_103002.out BK102.out (by decide)))
            have n2_ := am (hb)
            have n3_ := am (ho)
            clear BK101
            clear BK102
            clear HB
            clear HO_103002
            have BK101 := n0_
            have BK102 := n1_
            have HB := n2_
            have HO106 := n3_
            clear n0_ n1_ n2_ n3_
            clear ho hb hg hat
            obtain ⟨Ao27, co27, eo27⟩ := Kd.R_slice HO106.out
            (first | subst eo27 | (injection eo27 with f1_ f2_ f3_; have f4_ := f1_.symm; have f5_ := f3_.symm; clear f1_ f2_ f3_; subst f4_; subst f5_))
            refine hK.out _ _ ⟨(blk_cell BK102.out 0).trans rfl, (blk_cell BK102.out 1).trans rfl, (blk_cell BK102.out 2).trans rfl⟩ (fun hHeld => ?_)
            clear hK K
            refine norm_ (a' := ?_) ?_ ?_
            rotate_left
            ·show Act.put _ (some 44) _ = _
             simp only [Act.put, ac_]
             rfl
            refine pure_ (i := 7) (N := some 45) (v := ?_) (a' := ?_) (bm 9 255) rfl rfl (any_of HT_.out (by kernel_rfl)) (fun _ _ _ h => h) (Or.inl ⟨by rfl, ?_⟩) ?_ ?_
            rotate_left
            ·intro w'
             go_simp
             with_reducible rfl
            rotate_left
            ·simp only [Act.put, ac_]
             rfl
            refine last_ (i := 8) (N := none) (bm 9 511) rfl rfl (one_of HT_.out (by kernel_rfl)) (by decide) (fun K hK => ?_)
            have hs28 : w26.cell? ⟨gb102, 2, none⟩ = some (u103002) := (blk_cell BK102.out 2).trans rfl
            have hfs28 := blk_frozen BK102.out 2
            have hns28_0 := NB101_102.out
            have hms28_0 := NB102_101.out
            refine skip_ (w1 := ?_) (by rfl) rfl ?_ ?_
            rotate_left
            ·go_simp
             rfl
            refine hK.out _ _ ?_
            clear hK K
            refine done_ (done_of HT_.out (by kernel_rfl)) ?_
            try go_wp2
            go_roundg kj12
            case measure => have := HK1.out; have := HJ12.out; omega
            case rel => exact ⟨(wrap64 (x5_1 + 1)), (wrap64 (x6_1 + 1)), (x102000_1), (x102001_1), (x103000_1), (x103001_1), (y104), (.slice Ao27 y104.length co27), aq7, aq7, H', ⟨by have := HK1.out; have := HJ12.out; omega⟩, ⟨by (with_reducible repeat (first | apply Kd.R_alloc | apply Kd.R_drewN | apply Kd.R_drew)); exact Kd.R_mono (Kd.R_far (p := ⟨gb102, 2, none⟩) (Kd.R_types HO106.out BK102.out (by decide)) (fun _ hk => hk.2) (.slice Ao27 y104.length co27)) (fun _ hk => trivial)⟩, ⟨by (with_reducible repeat (first | refine blk_drewN ?_ _ | refine blk_drew ?_ | refine blk_alloc ?_ _)); refine blk_far ?_ NB101_102.out _; (with_reducible repeat (first | refine blk_drewN ?_ _ | refine blk_drew ?_ | refine blk_alloc ?_ _)); exact BK101.out⟩, ⟨by (with_reducible repeat (first | refine blk_drewN ?_ _ | refine blk_drew ?_ | refine blk_alloc ?_ _)); refine blk_put (cs := #[.int .i64 x103000_1, .int .i64 x103001_1, u103002]) ?_ 2 _ rfl; (with_reducible repeat (first | refine blk_drewN ?_ _ | refine blk_drew ?_ | refine blk_alloc ?_ _)); exact BK102.out⟩, ⟨aq6⟩⟩
           ·rw [if_neg c24] at H
            exact absurd H (by simp)
          ·replace c22 := Bool.eq_false_iff.mpr c22
           subst c22
           rw [if_neg Bool.false_ne_true] at H
           simp only [Option.some.injEq, Prod.mk.injEq] at H
           obtain ⟨rfl, rfl, rfl, rfl⟩ := H
           have p20 : 0 ≤ (x6_1 : Int) := of_decide_eq_true aq4
           have q20 : x6_1 < (a0.size : Int) := of_decide_eq_true aq4
           have hx20 := bt_at a0 x6_1
           replace p20 := eq_true p20
           replace q20 := eq_true q20
           go_wp2_with (first | ((with_reducible refine gate_callee (f := 97) rfl ?_); refine goesL_ (some 35) rfl rfl Tryz.func97 (by kernel_rfl) rfl #[.int .u8 (bt a0 x6_1)] rfl aq5 ?_; (with_reducible refine (spec_tyIs.calls (bt a0 x6_1) false _ A21.out).mono ?_); rintro e w' ⟨rfl, ⟨nd, rfl⟩⟩; refine ⟨_, rfl, ?_⟩; (try (rw [drewN_self wc]; generalize hq_ : World.drewN wc _ = wc; have n0_ : Aside0 (Kd.R (Kd.int .u8) 5 wc w.heap.size (fun _ => True) u103002 x103002_1) := ⟨by rw [← hq_]; exact aq21⟩; have n1_ : Aside0 (wc.heap[gb101]? = some (.cells #[.int .i64 x102000_1, .int .i64 x102001_1, .slice none 0 0] 62 (0, 0))) := ⟨by rw [← hq_]; exact aq2⟩; have n2_ : Aside0 (wc.heap[gb102]? = some (.cells #[.int .i64 x103000_1, .int .i64 x103001_1, u103002] 62 (0, 0))) := ⟨by rw [← hq_]; exact aq13⟩; have n3_ : Aside0 (Below w.heap.size w wc) := ⟨by rw [← hq_]; exact aq6⟩; clear HO_103002 BK101 BK102 HB hq_; have HO_103002 := n0_; have BK101 := n1_; have BK102 := n2_; have HB := n3_; clear n0_ n1_ n2_ n3_)); have hnb29 := NB101_102.out; have hnc29 := NB102_101.out; obtain ⟨hcz30_0, hcz30_1, hcz30_2, hfz30_0, hfz30_1, hfz30_2⟩ := blk3_ BK101.out))
           refine bodyPost_ret (results_ct rfl _ _ gb101 62 #[.int .i64 0, .int .i64 0, .slice none 0 0] (0, 0) _ rfl aq31 Tryz.underlying62 rfl (by kernel_rfl)) rfl ?_
           exact ⟨_, aq8, aq23, aq6⟩
         ·rw [if_neg c19] at H
          exact absurd H (by simp)
        ·rw [if_neg c18] at H
         exact absurd H (by simp)
       ·replace c17 := Bool.eq_false_iff.mpr c17
        subst c17
        rw [if_neg Bool.false_ne_true] at H
        by_cases c31 : x103001_1 > 0
        ·rw [if_pos c31] at H
         have c31b0 := decide_eq_true c31
         clear c31
         by_cases c32 : x5_1 = x103000_1
         ·rw [if_pos c32] at H
          have c32b0 := beq_iff_eq.mpr c32
          have c32b1 := bne_eq_false_iff_eq.mpr c32
          clear c32
          by_cases c33 : x5_1 = 0
          ·rw [if_pos c33] at H
           have c33b0 := beq_iff_eq.mpr c33
           have c33b1 := bne_eq_false_iff_eq.mpr c33
           clear c33
           simp only [Option.some.injEq, Prod.mk.injEq] at H
           obtain ⟨rfl, rfl, rfl, rfl⟩ := H
           have hnb34 := NB102_101.out
           have hnc34 := NB101_102.out
           obtain ⟨hcz35_0, hcz35_1, hcz35_2, hfz35_0, hfz35_1, hfz35_2⟩ := blk3_ BK102.out
           obtain ⟨hcz36_0, hcz36_1, hcz36_2, hfz36_0, hfz36_1, hfz36_2⟩ := blk3_ BK101.out
           go_wp2
           refine bodyPost_ret (results_ct rfl _ _ gb101 62 #[.int .i64 0, .int .i64 0, .slice none 0 0] (0, 0) _ rfl aq31 Tryz.underlying62 rfl (by kernel_rfl)) rfl ?_
           exact ⟨_, aq8, aq23, aq6⟩
          ·rw [if_neg c33] at H
           have c33b0 := beq_eq_false_iff_ne.mpr c33
           have c33b1 := bne_iff_ne.mpr c33
           have H' := am H
           clear H
           have hnb37 := NB102_101.out
           have hnc37 := NB101_102.out
           obtain ⟨hcz38_0, hcz38_1, hcz38_2, hfz38_0, hfz38_1, hfz38_2⟩ := blk3_ BK102.out
           go_wp2
           go_roundg kj12
           case measure => have := HK1.out; have := HJ12.out; omega
           case rel => exact ⟨(0), (wrap64 (x6_1 + 1)), (x102000_1), (x102001_1), (x5_1), (wrap64 (x103001_1 + 1)), (x103002_1), (u103002), aq7, aq7, H', ⟨by have := HK1.out; have := HJ12.out; omega⟩, ⟨aq65⟩, ⟨aq62⟩, ⟨aq50⟩, ⟨aq6⟩⟩
         ·rw [if_neg c32] at H
          have c32b0 := beq_eq_false_iff_ne.mpr c32
          have c32b1 := bne_iff_ne.mpr c32
          simp only [Option.some.injEq, Prod.mk.injEq] at H
          obtain ⟨rfl, rfl, rfl, rfl⟩ := H
          have hnb39 := NB102_101.out
          have hnc39 := NB101_102.out
          obtain ⟨hcz40_0, hcz40_1, hcz40_2, hfz40_0, hfz40_1, hfz40_2⟩ := blk3_ BK102.out
          obtain ⟨hcz41_0, hcz41_1, hcz41_2, hfz41_0, hfz41_1, hfz41_2⟩ := blk3_ BK101.out
          go_wp2
          refine bodyPost_ret (results_ct rfl _ _ gb101 62 #[.int .i64 0, .int .i64 0, .slice none 0 0] (0, 0) _ rfl aq31 Tryz.underlying62 rfl (by kernel_rfl)) rfl ?_
          exact ⟨_, aq8, aq23, aq6⟩
        ·rw [if_neg c31] at H
         have c31b0 := decide_eq_false c31
         clear c31
         by_cases c42 : x5_1 = 0
         ·rw [if_pos c42] at H
          have c42b0 := beq_iff_eq.mpr c42
          have c42b1 := bne_eq_false_iff_eq.mpr c42
          clear c42
          simp only [Option.some.injEq, Prod.mk.injEq] at H
          obtain ⟨rfl, rfl, rfl, rfl⟩ := H
          have hnb43 := NB102_101.out
          have hnc43 := NB101_102.out
          obtain ⟨hcz44_0, hcz44_1, hcz44_2, hfz44_0, hfz44_1, hfz44_2⟩ := blk3_ BK102.out
          obtain ⟨hcz45_0, hcz45_1, hcz45_2, hfz45_0, hfz45_1, hfz45_2⟩ := blk3_ BK101.out
          go_wp2
          refine bodyPost_ret (results_ct rfl _ _ gb101 62 #[.int .i64 0, .int .i64 0, .slice none 0 0] (0, 0) _ rfl aq31 Tryz.underlying62 rfl (by kernel_rfl)) rfl ?_
          exact ⟨_, aq8, aq23, aq6⟩
         ·rw [if_neg c42] at H
          have c42b0 := beq_eq_false_iff_ne.mpr c42
          have c42b1 := bne_iff_ne.mpr c42
          have H' := am H
          clear H
          have hnb46 := NB102_101.out
          have hnc46 := NB101_102.out
          obtain ⟨hcz47_0, hcz47_1, hcz47_2, hfz47_0, hfz47_1, hfz47_2⟩ := blk3_ BK102.out
          go_wp2
          go_roundg kj12
          case measure => have := HK1.out; have := HJ12.out; omega
          case rel => exact ⟨(0), (wrap64 (x6_1 + 1)), (x102000_1), (x102001_1), (x5_1), (wrap64 (x103001_1 + 1)), (x103002_1), (u103002), aq7, aq7, H', ⟨by have := HK1.out; have := HJ12.out; omega⟩, ⟨aq65⟩, ⟨aq62⟩, ⟨aq50⟩, ⟨aq6⟩⟩
    ·rw [if_neg c12] at H
     have c12b0 := decide_eq_false c12
     clear c12
     have HC48 := am H
     clear H
     go_upto_region 18 with (fail)
     go_cut [81] (fun v81 wc => ∃ (kq : Nat) (x81_47 : Bool), v81 = .bool x81_47 ∧ Aside0 (spec_tyRead.j2 kq x81_47 x103000_1 x103001_1 x103002_1 = some (r1, r2, r3, r4)) ∧ Aside0 (kq ≤ k1) ∧ Aside0 (Kd.R (Kd.int .u8) 5 wc w.heap.size (fun _ => True) u103002 x103002_1) ∧ Aside0 (wc.heap[gb101]? = some (.cells #[.int .i64 x102000_1, .int .i64 x102001_1, (.slice none 0 0)] 62 (0, 0))) ∧ Aside0 (wc.heap[gb102]? = some (.cells #[.int .i64 x103000_1, .int .i64 x103001_1, u103002] 62 (0, 0))) ∧ Aside0 (Below w.heap.size w wc))
     case first =>
      have H := HC48.out
      clear HC48
      by_cases c49 : x103000_1 > 7
      ·rw [if_pos c49] at H
       have c49b0 := decide_eq_true c49
       clear c49
       (first | rw [c49b0] | (simp only [i64_w, i32_w]; rw [c49b0]) | skip)
       have H' := am H
       clear H
       have hnb50 := NB102_101.out
       have hnc50 := NB101_102.out
       obtain ⟨hcz51_0, hcz51_1, hcz51_2, hfz51_0, hfz51_1, hfz51_2⟩ := blk3_ BK102.out
       go_wp2
       go_meet
       case rel => exact ⟨_, (true), aq7, H', ⟨aq72⟩, ⟨aq21⟩, ⟨aq2⟩, ⟨aq13⟩, ⟨aq6⟩⟩
      ·rw [if_neg c49] at H
       have c49b0 := decide_eq_false c49
       clear c49
       (first | rw [c49b0] | (simp only [i64_w, i32_w]; rw [c49b0]) | skip)
       by_cases c52 : x103001_1 > 7
       ·rw [if_pos c52] at H
        have c52b0 := decide_eq_true c52
        clear c52
        have H' := am H
        clear H
        have hnb53 := NB102_101.out
        have hnc53 := NB101_102.out
        obtain ⟨hcz54_0, hcz54_1, hcz54_2, hfz54_0, hfz54_1, hfz54_2⟩ := blk3_ BK102.out
        go_wp2
        go_meet
        case rel => exact ⟨_, (true), aq7, H', ⟨aq72⟩, ⟨aq21⟩, ⟨aq2⟩, ⟨aq13⟩, ⟨aq6⟩⟩
       ·rw [if_neg c52] at H
        have c52b0 := decide_eq_false c52
        clear c52
        have H' := am H
        clear H
        have hnb55 := NB102_101.out
        have hnc55 := NB101_102.out
        obtain ⟨hcz56_0, hcz56_1, hcz56_2, hfz56_0, hfz56_1, hfz56_2⟩ := blk3_ BK102.out
        obtain ⟨Ao57, co57, eo57⟩ := Kd.R_slice HO_103002.out
        subst eo57
        go_wp2
        go_meet
        case rel => exact ⟨_, (decide ((x103002_1.length : Int) > 36)), aq7, H', ⟨aq72⟩, ⟨aq21⟩, ⟨aq2⟩, ⟨aq13⟩, ⟨aq6⟩⟩
     case rest =>
      clear HC48
      try clear c1
      try clear p1
      try clear q1
      try clear hx1
      try clear c2
      try clear c2b0
      try clear c2b1
      try clear p2
      try clear q2
      try clear hx2
      try clear c3
      try clear c4
      try clear c5
      try clear p6
      try clear c9
      try clear c10
      try clear c12
      try clear c12b0
      try clear c14
      try clear c14b0
      try clear c15
      try clear c15b0
      try clear p16
      try clear q16
      try clear hx16
      try clear c17
      try clear c18
      try clear c18b0
      try clear c19
      try clear c19b0
      try clear p20
      try clear q20
      try clear hx20
      try clear c22
      try clear p23
      try clear q23
      try clear hx23
      try clear c24
      try clear c29
      try clear c31
      try clear c31b0
      try clear c32
      try clear c32b0
      try clear c32b1
      try clear c33
      try clear c33b0
      try clear c33b1
      try clear c34
      try clear c37
      try clear c39
      try clear c42
      try clear c42b0
      try clear c42b1
      try clear c43
      try clear c46
      try clear c49
      try clear c49b0
      try clear c50
      try clear c51
      try clear c52
      try clear c52b0
      try clear c53
      try clear c55
      try clear hcz11_0
      try clear hcz11_1
      try clear hcz11_2
      try clear hcz30_0
      try clear hcz30_1
      try clear hcz30_2
      try clear hcz35_0
      try clear hcz35_1
      try clear hcz35_2
      try clear hcz36_0
      try clear hcz36_1
      try clear hcz36_2
      try clear hcz38_0
      try clear hcz38_1
      try clear hcz38_2
      try clear hcz40_0
      try clear hcz40_1
      try clear hcz40_2
      try clear hcz41_0
      try clear hcz41_1
      try clear hcz41_2
      try clear hcz44_0
      try clear hcz44_1
      try clear hcz44_2
      try clear hcz45_0
      try clear hcz45_1
      try clear hcz45_2
      try clear hcz47_0
      try clear hcz47_1
      try clear hcz47_2
      try clear hcz51_0
      try clear hcz51_1
      try clear hcz51_2
      try clear hcz54_0
      try clear hcz54_1
      try clear hcz54_2
      try clear hcz56_0
      try clear hcz56_1
      try clear hcz56_2
      try clear hcz6_0
      try clear hcz6_1
      try clear hcz6_2
      try clear hcz7_0
      try clear hcz7_1
      try clear hcz7_2
      try clear hfz11_0
      try clear hfz11_1
      try clear hfz11_2
      try clear hfz30_0
      try clear hfz30_1
      try clear hfz30_2
      try clear hfz35_0
      try clear hfz35_1
      try clear hfz35_2
      try clear hfz36_0
      try clear hfz36_1
      try clear hfz36_2
      try clear hfz38_0
      try clear hfz38_1
      try clear hfz38_2
      try clear hfz40_0
      try clear hfz40_1
      try clear hfz40_2
      try clear hfz41_0
      try clear hfz41_1
      try clear hfz41_2
      try clear hfz44_0
      try clear hfz44_1
      try clear hfz44_2
      try clear hfz45_0
      try clear hfz45_1
      try clear hfz45_2
      try clear hfz47_0
      try clear hfz47_1
      try clear hfz47_2
      try clear hfz51_0
      try clear hfz51_1
      try clear hfz51_2
      try clear hfz54_0
      try clear hfz54_1
      try clear hfz54_2
      try clear hfz56_0
      try clear hfz56_1
      try clear hfz56_2
      try clear hfz6_0
      try clear hfz6_1
      try clear hfz6_2
      try clear hfz7_0
      try clear hfz7_1
      try clear hfz7_2
      try clear p1
      try clear p16
      try clear p2
      try clear p20
      try clear p23
      try clear q1
      try clear q16
      try clear q20
      try clear q23
      obtain ⟨kq, x81_47, rfl, HA, HJ47, HO_103002, BK101, BK102, HB⟩ := hcut
      cases kq with
      | zero => exact absurd HA.out (by simp [spec_tyRead.j2])
      | succ kj47 =>
       have H := HA.out
       clear HA
       simp only [spec_tyRead.j2] at H
       by_cases c58 : x81_47 = true
       ·subst c58
        rw [if_pos rfl] at H
        simp only [Option.some.injEq, Prod.mk.injEq] at H
        obtain ⟨rfl, rfl, rfl, rfl⟩ := H
        have hnb59 := NB101_102.out
        have hnc59 := NB102_101.out
        obtain ⟨hcz60_0, hcz60_1, hcz60_2, hfz60_0, hfz60_1, hfz60_2⟩ := blk3_ BK101.out
        go_wp2
        refine bodyPost_ret (results_ct rfl _ _ gb101 62 #[.int .i64 0, .int .i64 0, .slice none 0 0] (0, 0) _ rfl aq31 Tryz.underlying62 rfl (by kernel_rfl)) rfl ?_
        exact ⟨_, aq8, aq23, aq6⟩
       ·replace c58 := Bool.eq_false_iff.mpr c58
        subst c58
        rw [if_neg Bool.false_ne_true] at H
        have H' := am H
        clear H
        have hnb61 := NB102_101.out
        have hnc61 := NB101_102.out
        obtain ⟨hcz62_0, hcz62_1, hcz62_2, hfz62_0, hfz62_1, hfz62_2⟩ := blk3_ BK102.out
        obtain ⟨Ao63, co63, eo63⟩ := Kd.R_slice HO_103002.out
        subst eo63
        go_wp2
        go_loopg [86] kj47 (fun kq v86 w' => ∃ (x86_3 : Int) (x102000_3 : Int) (x102001_3 : Int), v86 = .int .i64 x86_3 ∧ Aside0 (spec_tyRead.l1 kq x103002_1 (x103002_1.length : Int) x86_3 x103000_1 x103001_1 x103002_1 = some (r1, r2, r3, r4)) ∧ Aside0 (kq ≤ kj47) ∧ Aside0 (Kd.R (Kd.int .u8) 5 w' w.heap.size (fun _ => True) (.slice Ao63 x103002_1.length co63) x103002_1) ∧ Aside0 (Kd.R (Kd.int .u8) 5 w' w.heap.size (fun _ => True) (.slice Ao63 x103002_1.length co63) x103002_1) ∧ Aside0 (w'.heap[gb101]? = some (.cells #[.int .i64 x102000_3, .int .i64 x102001_3, (.slice none 0 0)] 62 (0, 0))) ∧ Aside0 (w'.heap[gb102]? = some (.cells #[.int .i64 x103000_1, .int .i64 x103001_1, (.slice Ao63 x103002_1.length co63)] 62 (0, 0))) ∧ Aside0 (Below w.heap.size w w'))
        case atStart => exact ⟨(0), (x102000_1), (x102001_1), aq7, H', ⟨Nat.le_refl _⟩, ⟨aq21⟩, ⟨aq21⟩, ⟨aq2⟩, ⟨aq13⟩, ⟨aq6⟩⟩
        case round =>
         clear H'
         try clear c1
         try clear p1
         try clear q1
         try clear hx1
         try clear c2
         try clear c2b0
         try clear c2b1
         try clear p2
         try clear q2
         try clear hx2
         try clear c3
         try clear c4
         try clear c5
         try clear c6
         try clear p6
         try clear c9
         try clear c10
         try clear c12
         try clear c12b0
         try clear c14
         try clear c14b0
         try clear c15
         try clear c15b0
         try clear p16
         try clear q16
         try clear hx16
         try clear c17
         try clear c18
         try clear c18b0
         try clear c19
         try clear c19b0
         try clear p20
         try clear q20
         try clear hx20
         try clear c22
         try clear p23
         try clear q23
         try clear hx23
         try clear c24
         try clear c29
         try clear c31
         try clear c31b0
         try clear c32
         try clear c32b0
         try clear c32b1
         try clear c33
         try clear c33b0
         try clear c33b1
         try clear c34
         try clear c37
         try clear c39
         try clear c42
         try clear c42b0
         try clear c42b1
         try clear c43
         try clear c46
         try clear c49
         try clear c49b0
         try clear c50
         try clear c51
         try clear c52
         try clear c52b0
         try clear c53
         try clear c55
         try clear c58
         try clear c59
         try clear c61
         try clear hcz11_0
         try clear hcz11_1
         try clear hcz11_2
         try clear hcz30_0
         try clear hcz30_1
         try clear hcz30_2
         try clear hcz35_0
         try clear hcz35_1
         try clear hcz35_2
         try clear hcz36_0
         try clear hcz36_1
         try clear hcz36_2
         try clear hcz38_0
         try clear hcz38_1
         try clear hcz38_2
         try clear hcz40_0
         try clear hcz40_1
         try clear hcz40_2
         try clear hcz41_0
         try clear hcz41_1
         try clear hcz41_2
         try clear hcz44_0
         try clear hcz44_1
         try clear hcz44_2
         try clear hcz45_0
         try clear hcz45_1
         try clear hcz45_2
         try clear hcz47_0
         try clear hcz47_1
         try clear hcz47_2
         try clear hcz51_0
         try clear hcz51_1
         try clear hcz51_2
         try clear hcz54_0
         try clear hcz54_1
         try clear hcz54_2
         try clear hcz56_0
         try clear hcz56_1
         try clear hcz56_2
         try clear hcz60_0
         try clear hcz60_1
         try clear hcz60_2
         try clear hcz62_0
         try clear hcz62_1
         try clear hcz62_2
         try clear hcz6_0
         try clear hcz6_1
         try clear hcz6_2
         try clear hcz7_0
         try clear hcz7_1
         try clear hcz7_2
         try clear hfz11_0
         try clear hfz11_1
         try clear hfz11_2
         try clear hfz30_0
         try clear hfz30_1
         try clear hfz30_2
         try clear hfz35_0
         try clear hfz35_1
         try clear hfz35_2
         try clear hfz36_0
         try clear hfz36_1
         try clear hfz36_2
         try clear hfz38_0
         try clear hfz38_1
         try clear hfz38_2
         try clear hfz40_0
         try clear hfz40_1
         try clear hfz40_2
         try clear hfz41_0
         try clear hfz41_1
         try clear hfz41_2
         try clear hfz44_0
         try clear hfz44_1
         try clear hfz44_2
         try clear hfz45_0
         try clear hfz45_1
         try clear hfz45_2
         try clear hfz47_0
         try clear hfz47_1
         try clear hfz47_2
         try clear hfz51_0
         try clear hfz51_1
         try clear hfz51_2
         try clear hfz54_0
         try clear hfz54_1
         try clear hfz54_2
         try clear hfz56_0
         try clear hfz56_1
         try clear hfz56_2
         try clear hfz60_0
         try clear hfz60_1
         try clear hfz60_2
         try clear hfz62_0
         try clear hfz62_1
         try clear hfz62_2
         try clear hfz6_0
         try clear hfz6_1
         try clear hfz6_2
         try clear hfz7_0
         try clear hfz7_1
         try clear hfz7_2
         try clear p1
         try clear p16
         try clear p2
         try clear p20
         try clear p23
         try clear p6
         try clear q1
         try clear q16
         try clear q2
         try clear q20
         try clear q23
         obtain ⟨x86_3, x102000_3, x102001_3, rfl, HA, HK3, HO_84, HO_103002, BK101, BK102, HB⟩ := hrel
         cases gk with
         | zero => exact absurd HA.out (by simp [spec_tyRead.l1])
         | succ k3 =>
          have H := HA.out
          clear HA
          simp only [spec_tyRead.l1] at H
          by_cases c64 : x86_3 < (x103002_1.length : Int)
          ·rw [if_pos c64] at H
           have c64b0 := decide_eq_true c64
           clear c64
           by_cases c65 : 0 ≤ x86_3
           ·rw [if_pos c65] at H
            have c65b0 := decide_eq_true c65
            clear c65
            by_cases c66 : x86_3 < (x103002_1.length : Int)
            ·rw [if_pos c66] at H
             have c66b0 := decide_eq_true c66
             clear c66
             have c67b0 := eq_true (of_decide_eq_true aq4 : 0 ≤ x86_3)
             by_cases c68 : x86_3 ≤ (x103002_1.length : Int)
             ·rw [if_pos c68] at H
              have c68b0 := eq_true c68
              have c68b1 := decide_eq_true c68
              clear c68
              obtain ⟨y108, hy_⟩ : ∃ y_ : List Int, y_ = (x103002_1.take (x86_3 : Int).toNat) := ⟨_, rfl⟩
              replace H : (spec_tyRead.l2 k3 (rd x103002_1 x86_3) x103002_1 (x103002_1.length : Int) x86_3 y108 (y108.length : Int) 0 x103000_1 x103001_1 x103002_1) = some (r1, r2, r3, r4) := aq3
              have Ny108 := am hy_
              clear hy_
              have H' := am H
              clear H
              have p107 : 0 ≤ (x86_3 : Int) := of_decide_eq_true aq4
              have q107 : x86_3 < (x103002_1.length : Int) := of_decide_eq_true aq4
              obtain ⟨ad107, e107, hx107_0⟩ := Kd.at_int (Kd.R_reads' HO_84.out).2.2 x86_3 p107 q107
              cases e107
              replace p107 := eq_true p107
              replace q107 := eq_true q107
              have hnb69 := NB102_101.out
              have hnc69 := NB101_102.out
              obtain ⟨hcz70_0, hcz70_1, hcz70_2, hfz70_0, hfz70_1, hfz70_2⟩ := blk3_ BK102.out
              have q71 : (x86_3 : Int) ≤ ((x103002_1.length : Int) : Int) := of_decide_eq_true aq4
              obtain ⟨i071, hi071, _, hsz71, _⟩ := info_parts info5
              have hroom71 : x103002_1.length ≤ co63 := (Kd.R_reads' HO_103002.out).2.1
              have hC71 : Kd.C (Kd.int .u8) _ (some ad107) x103002_1.length x103002_1 := (Kd.R_reads' HO_103002.out).2.2
              have hcut71 := cut_to (P := Tryz.prog) 60 5 .i64 Tryz.underlying60 hi071 (some ad107) x103002_1.length co63 x86_3 (of_decide_eq_true aq4) q71 hroom71
              have hr71 := Kd.C_take (m := (x86_3 : Int).toNat) hC71 (by omega)
              have hy71 : y108.length = (x86_3 : Int).toNat := (by rw [Ny108.out, List.length_take]; omega)
              rw [← Ny108.out] at hr71
              rw [← hy71] at hcut71
              have HR111 := am hr71
              have HC111 := am (show y108.length ≤ co63 from by omega)
              clear hr71 hC71 hroom71 hi071 hsz71
              have KY71 := am hy71
              clear hy71
              have KL71 := am (show (x86_3 : Int).toNat ≤ x103002_1.length from by omega)
              replace q71 := eq_true q71
              go_wp2
              go_loopg [96] k3 (fun kq v96 w' => ∃ (x96_4 : Int) (x102000_4 : Int) (x102001_4 : Int), v96 = .int .i64 x96_4 ∧ Aside0 (spec_tyRead.l2 kq (rd x103002_1 x86_3) x103002_1 (x103002_1.length : Int) x86_3 y108 (y108.length : Int) x96_4 x103000_1 x103001_1 x103002_1 = some (r1, r2, r3, r4)) ∧ Aside0 (kq ≤ k3) ∧ Aside0 (Kd.R (Kd.int .u8) 5 w' w.heap.size (fun _ => True) (.slice (some ad107) x103002_1.length co63) x103002_1) ∧ Aside0 (Kd.R (Kd.int .u8) 5 w' w.heap.size (fun _ => True) (.slice (some ad107) x103002_1.length co63) x103002_1) ∧ Aside0 (w'.heap[gb101]? = some (.cells #[.int .i64 x102000_4, .int .i64 x102001_4, (.slice none 0 0)] 62 (0, 0))) ∧ Aside0 (w'.heap[gb102]? = some (.cells #[.int .i64 x103000_1, .int .i64 x103001_1, (.slice (some ad107) x103002_1.length co63)] 62 (0, 0))) ∧ Aside0 (Kd.C (Kd.int .u8) w' (some ad107) y108.length y108) ∧ Aside0 (Below w.heap.size w w'))
              case atStart => exact ⟨(0), (x102000_3), (x102001_3), aq7, H', ⟨Nat.le_refl _⟩, ⟨aq58⟩, ⟨aq21⟩, ⟨aq2⟩, ⟨aq13⟩, ⟨aq45⟩, ⟨aq6⟩⟩
              case round =>
               clear H'
               try clear c1
               try clear p1
               try clear q1
               try clear hx1
               try clear c2
               try clear c2b0
               try clear c2b1
               try clear p2
               try clear q2
               try clear hx2
               try clear c3
               try clear c4
               try clear c5
               try clear c6
               try clear p6
               try clear q7
               try clear c9
               try clear c10
               try clear p10
               try clear q10
               try clear hx10
               try clear c12
               try clear c12b0
               try clear c14
               try clear c14b0
               try clear c15
               try clear c15b0
               try clear p16
               try clear q16
               try clear hx16
               try clear c17
               try clear c18
               try clear c18b0
               try clear c19
               try clear c19b0
               try clear p20
               try clear q20
               try clear hx20
               try clear c22
               try clear p23
               try clear q23
               try clear hx23
               try clear c24
               try clear c29
               try clear c31
               try clear c31b0
               try clear c32
               try clear c32b0
               try clear c32b1
               try clear c33
               try clear c33b0
               try clear c33b1
               try clear c34
               try clear c37
               try clear c39
               try clear c42
               try clear c42b0
               try clear c42b1
               try clear c43
               try clear c46
               try clear c49
               try clear c49b0
               try clear c50
               try clear c51
               try clear c52
               try clear c52b0
               try clear c53
               try clear c55
               try clear c58
               try clear c59
               try clear c61
               try clear c64
               try clear c64b0
               try clear p64
               try clear c65
               try clear c65b0
               try clear c66
               try clear c66b0
               try clear c67
               try clear c67b0
               try clear c68
               try clear c68b0
               try clear c68b1
               try clear c69
               try clear q71
               try clear hcz11_0
               try clear hcz11_1
               try clear hcz11_2
               try clear hcz30_0
               try clear hcz30_1
               try clear hcz30_2
               try clear hcz35_0
               try clear hcz35_1
               try clear hcz35_2
               try clear hcz36_0
               try clear hcz36_1
               try clear hcz36_2
               try clear hcz38_0
               try clear hcz38_1
               try clear hcz38_2
               try clear hcz40_0
               try clear hcz40_1
               try clear hcz40_2
               try clear hcz41_0
               try clear hcz41_1
               try clear hcz41_2
               try clear hcz44_0
               try clear hcz44_1
               try clear hcz44_2
               try clear hcz45_0
               try clear hcz45_1
               try clear hcz45_2
               try clear hcz47_0
               try clear hcz47_1
               try clear hcz47_2
               try clear hcz51_0
               try clear hcz51_1
               try clear hcz51_2
               try clear hcz54_0
               try clear hcz54_1
               try clear hcz54_2
               try clear hcz56_0
               try clear hcz56_1
               try clear hcz56_2
               try clear hcz60_0
               try clear hcz60_1
               try clear hcz60_2
               try clear hcz62_0
               try clear hcz62_1
               try clear hcz62_2
               try clear hcz6_0
               try clear hcz6_1
               try clear hcz6_2
               try clear hcz70_0
               try clear hcz70_1
               try clear hcz70_2
               try clear hcz7_0
               try clear hcz7_1
               try clear hcz7_2
               try clear hfz11_0
               try clear hfz11_1
               try clear hfz11_2
               try clear hfz30_0
               try clear hfz30_1
               try clear hfz30_2
               try clear hfz35_0
               try clear hfz35_1
               try clear hfz35_2
               try clear hfz36_0
               try clear hfz36_1
               try clear hfz36_2
               try clear hfz38_0
               try clear hfz38_1
               try clear hfz38_2
               try clear hfz40_0
               try clear hfz40_1
               try clear hfz40_2
               try clear hfz41_0
               try clear hfz41_1
               try clear hfz41_2
               try clear hfz44_0
               try clear hfz44_1
               try clear hfz44_2
               try clear hfz45_0
               try clear hfz45_1
               try clear hfz45_2
               try clear hfz47_0
               try clear hfz47_1
               try clear hfz47_2
               try clear hfz51_0
               try clear hfz51_1
               try clear hfz51_2
               try clear hfz54_0
               try clear hfz54_1
               try clear hfz54_2
               try clear hfz56_0
               try clear hfz56_1
               try clear hfz56_2
               try clear hfz60_0
               try clear hfz60_1
               try clear hfz60_2
               try clear hfz62_0
               try clear hfz62_1
               try clear hfz62_2
               try clear hfz6_0
               try clear hfz6_1
               try clear hfz6_2
               try clear hfz70_0
               try clear hfz70_1
               try clear hfz70_2
               try clear hfz7_0
               try clear hfz7_1
               try clear hfz7_2
               try clear hx107_0
               try clear p1
               try clear p107
               try clear p16
               try clear p2
               try clear p20
               try clear p23
               try clear p6
               try clear q1
               try clear q107
               try clear q16
               try clear q2
               try clear q20
               try clear q23
               try clear q71
               obtain ⟨x96_4, x102000_4, x102001_4, rfl, HA, HK4, HO_84, HO_103002, BK101, BK102, HR111, HB⟩ := hrel
               cases gk with
               | zero => exact absurd HA.out (by simp [spec_tyRead.l2])
               | succ k4 =>
                have H := HA.out
                clear HA
                simp only [spec_tyRead.l2] at H
                by_cases c72 : x96_4 < (y108.length : Int)
                ·rw [if_pos c72] at H
                 have c72b0 := decide_eq_true c72
                 clear c72
                 by_cases c73 : 0 ≤ x96_4
                 ·rw [if_pos c73] at H
                  have c73b0 := decide_eq_true c73
                  clear c73
                  by_cases c74 : x96_4 < (y108.length : Int)
                  ·rw [if_pos c74] at H
                   have c74b0 := decide_eq_true c74
                   clear c74
                   by_cases c75 : (rd x103002_1 x86_3) = (rd y108 x96_4)
                   ·rw [if_pos c75] at H
                    have c75b0 := beq_iff_eq.mpr c75
                    have c75b1 := bne_eq_false_iff_eq.mpr c75
                    clear c75
                    by_cases c76 : (rd x103002_1 x86_3) ≥ 97
                    ·rw [if_pos c76] at H
                     have c76b0 := decide_eq_true c76
                     clear c76
                     by_cases c77 : (rd x103002_1 x86_3) ≤ 102
                     ·rw [if_pos c77] at H
                      have c77b0 := decide_eq_true c77
                      clear c77
                      simp only [Option.some.injEq, Prod.mk.injEq] at H
                      obtain ⟨rfl, rfl, rfl, rfl⟩ := H
                      have p112 : 0 ≤ (x96_4 : Int) := of_decide_eq_true aq4
                      have q112 : x96_4 < (y108.length : Int) := of_decide_eq_true aq4
                      obtain ⟨ad112, e112, hx112_0⟩ := Kd.at_int HR111.out x96_4 p112 q112
                      obtain rfl : ad107 = ad112 := (by injection e112)
                      try replace hx112_0 := (HB.out.cell (World.block_lt_of_cell? w _ hx112_0)).trans hx112_0
                      replace p112 := eq_true p112
                      replace q112 := eq_true q112
                      have hnb78 := NB101_102.out
                      have hnc78 := NB102_101.out
                      obtain ⟨hcz79_0, hcz79_1, hcz79_2, hfz79_0, hfz79_1, hfz79_2⟩ := blk3_ BK101.out
                      go_wp2
                      refine bodyPost_ret (results_ct rfl _ _ gb101 62 #[.int .i64 0, .int .i64 0, .slice none 0 0] (0, 0) _ rfl (by (with_reducible repeat (first | refine blk_drewN ?_ _ | refine blk_drew ?_ | refine blk_alloc ?_ _)); refine blk_put (cs := #[.int .i64 0, .int .i64 0, .slice none 0 0]) ?_ 2 _ rfl; (with_reducible repeat (first | refine blk_drewN ?_ _ | refine blk_drew ?_ | refine blk_alloc ?_ _)); refine blk_put (cs := #[.int .i64 0, .int .i64 x102001_4, .slice none 0 0]) ?_ 1 _ rfl; (with_reducible repeat (first | refine blk_drewN ?_ _ | refine blk_drew ?_ | refine blk_alloc ?_ _)); refine blk_put (cs := #[.int .i64 x102000_4, .int .i64 x102001_4, .slice none 0 0]) ?_ 0 _ rfl; (with_reducible repeat (first | refine blk_drewN ?_ _ | refine blk_drew ?_ | refine blk_alloc ?_ _)); exact BK101.out) Tryz.underlying62 rfl (by kernel_rfl)) rfl ?_
                      exact ⟨_, aq8, aq23, aq6⟩
                     ·rw [if_neg c77] at H
                      have c77b0 := decide_eq_false c77
                      clear c77
                      have H' := am H
                      clear H
                      have p112 : 0 ≤ (x96_4 : Int) := of_decide_eq_true aq4
                      have q112 : x96_4 < (y108.length : Int) := of_decide_eq_true aq4
                      obtain ⟨ad112, e112, hx112_0⟩ := Kd.at_int HR111.out x96_4 p112 q112
                      obtain rfl : ad107 = ad112 := (by injection e112)
                      try replace hx112_0 := (HB.out.cell (World.block_lt_of_cell? w _ hx112_0)).trans hx112_0
                      replace p112 := eq_true p112
                      replace q112 := eq_true q112
                      go_wp2
                      go_roundg k4
                      case measure => have := HK1.out; have := HJ47.out; have := HK3.out; have := HK4.out; omega
                      case rel => exact ⟨(wrap64 (x96_4 + 1)), (x102000_4), (x102001_4), aq7, H', ⟨aq77⟩, ⟨aq58⟩, ⟨aq21⟩, ⟨aq2⟩, ⟨aq13⟩, ⟨aq45⟩, ⟨aq6⟩⟩
                    ·rw [if_neg c76] at H
                     have c76b0 := decide_eq_false c76
                     clear c76
                     have H' := am H
                     clear H
                     have p112 : 0 ≤ (x96_4 : Int) := of_decide_eq_true aq4
                     have q112 : x96_4 < (y108.length : Int) := of_decide_eq_true aq4
                     obtain ⟨ad112, e112, hx112_0⟩ := Kd.at_int HR111.out x96_4 p112 q112
                     obtain rfl : ad107 = ad112 := (by injection e112)
                     try replace hx112_0 := (HB.out.cell (World.block_lt_of_cell? w _ hx112_0)).trans hx112_0
                     replace p112 := eq_true p112
                     replace q112 := eq_true q112
                     go_wp2
                     go_roundg k4
                     case measure => have := HK1.out; have := HJ47.out; have := HK3.out; have := HK4.out; omega
                     case rel => exact ⟨(wrap64 (x96_4 + 1)), (x102000_4), (x102001_4), aq7, H', ⟨aq77⟩, ⟨aq58⟩, ⟨aq21⟩, ⟨aq2⟩, ⟨aq13⟩, ⟨aq45⟩, ⟨aq6⟩⟩
                   ·rw [if_neg c75] at H
                    have c75b0 := beq_eq_false_iff_ne.mpr c75
                    have c75b1 := bne_iff_ne.mpr c75
                    have H' := am H
                    clear H
                    have p112 : 0 ≤ (x96_4 : Int) := of_decide_eq_true aq4
                    have q112 : x96_4 < (y108.length : Int) := of_decide_eq_true aq4
                    obtain ⟨ad112, e112, hx112_0⟩ := Kd.at_int HR111.out x96_4 p112 q112
                    obtain rfl : ad107 = ad112 := (by injection e112)
                    try replace hx112_0 := (HB.out.cell (World.block_lt_of_cell? w _ hx112_0)).trans hx112_0
                    replace p112 := eq_true p112
                    replace q112 := eq_true q112
                    go_wp2
                    go_roundg k4
                    case measure => have := HK1.out; have := HJ47.out; have := HK3.out; have := HK4.out; omega
                    case rel => exact ⟨(wrap64 (x96_4 + 1)), (x102000_4), (x102001_4), aq7, H', ⟨aq77⟩, ⟨aq58⟩, ⟨aq21⟩, ⟨aq2⟩, ⟨aq13⟩, ⟨aq45⟩, ⟨aq6⟩⟩
                  ·rw [if_neg c74] at H
                   exact absurd H (by simp)
                 ·rw [if_neg c73] at H
                  exact absurd H (by simp)
                ·rw [if_neg c72] at H
                 have c72b0 := decide_eq_false c72
                 clear c72
                 have H' := am H
                 clear H
                 go_wp2
                 go_roundg k4
                 case measure => have := HK1.out; have := HJ47.out; have := HK3.out; have := HK4.out; omega
                 case rel => exact ⟨(wrap64 (x86_3 + 1)), (x102000_4), (x102001_4), aq7, H', ⟨aq77⟩, ⟨aq58⟩, ⟨aq21⟩, ⟨aq2⟩, ⟨aq13⟩, ⟨aq6⟩⟩
             ·rw [if_neg c68] at H
              exact absurd H (by simp)
            ·rw [if_neg c66] at H
             exact absurd H (by simp)
           ·rw [if_neg c65] at H
            exact absurd H (by simp)
          ·rw [if_neg c64] at H
           have c64b0 := decide_eq_false c64
           clear c64
           simp only [Option.some.injEq, Prod.mk.injEq] at H
           obtain ⟨rfl, rfl, rfl, rfl⟩ := H
           have hnb80 := NB102_101.out
           have hnc80 := NB101_102.out
           obtain ⟨hcz81_0, hcz81_1, hcz81_2, hfz81_0, hfz81_1, hfz81_2⟩ := blk3_ BK102.out
           obtain ⟨hcz82_0, hcz82_1, hcz82_2, hfz82_0, hfz82_1, hfz82_2⟩ := blk3_ BK101.out
           go_wp2
           refine bodyPost_ret (results_ct rfl _ _ gb101 62 #[.int .i64 x103000_1, .int .i64 x103001_1, .slice Ao63 x103002_1.length co63] (0, 0) _ rfl (by (with_reducible repeat (first | refine blk_drewN ?_ _ | refine blk_drew ?_ | refine blk_alloc ?_ _)); refine blk_put (cs := #[.int .i64 x103000_1, .int .i64 x103001_1, .slice none 0 0]) ?_ 2 _ rfl; (with_reducible repeat (first | refine blk_drewN ?_ _ | refine blk_drew ?_ | refine blk_alloc ?_ _)); refine blk_put (cs := #[.int .i64 x103000_1, .int .i64 x102001_3, .slice none 0 0]) ?_ 1 _ rfl; (with_reducible repeat (first | refine blk_drewN ?_ _ | refine blk_drew ?_ | refine blk_alloc ?_ _)); refine blk_put (cs := #[.int .i64 x102000_3, .int .i64 x102001_3, .slice none 0 0]) ?_ 0 _ rfl; (with_reducible repeat (first | refine blk_drewN ?_ _ | refine blk_drew ?_ | refine blk_alloc ?_ _)); exact BK101.out) Tryz.underlying62 rfl (by kernel_rfl)) rfl ?_
           exact ⟨_, aq8, by (with_reducible repeat (first | apply Kd.R_alloc | apply Kd.R_drewN | apply Kd.R_drew)); exact Kd.R_mono (Kd.R_far (p := ⟨gb101, 2, none⟩) (Kd.R_far (p := ⟨gb101, 1, none⟩) (Kd.R_far (p := ⟨gb101, 0, none⟩) (Kd.R_types HO_103002.out BK101.out (by decide)) (fun _ hk => hk.2) (.int .i64 x103000_1)) (fun _ hk => hk.2) (.int .i64 x103001_1)) (fun _ hk => hk.2) (.slice Ao63 x103002_1.length co63)) (fun _ hk => trivial), aq6⟩
def impl_within.f (a0 : Int) (a1 : Int) (a2 : Int) : Option (Bool) := if a1 ≤ a0 then (some (decide (a0 ≤ a2))) else (some false)
set_option maxHeartbeats 8000000 in
set_option maxRecDepth 100000 in
theorem impl_within.calls (a0 : Int) (a1 : Int) (a2 : Int) (r : Bool) (w : World) (h : impl_within.f a0 a1 a2 = some r) :
  Calls Tryz.prog 56 #[.int .i64 a0, .int .i64 a1, .int .i64 a2] w fun e w' => e = .returned (.bool r) ∧ Drawn0 w w' := by
 have H : (if a1 ≤ a0 then (some (decide (a0 ≤ a2))) else (some false)) = some r := h
 clear h
 by_cases c4 : a1 ≤ a0
 ·rw [if_pos c4] at H
  have c4b0 := decide_eq_true c4
  clear c4
  obtain rfl := Option.some.inj H
  go_enter Tryz.func56, Tryz.ntmps56
  go_wp2
  go_ret
  exact ⟨aq7, aq11⟩
 ·rw [if_neg c4] at H
  have c4b0 := decide_eq_false c4
  clear c4
  obtain rfl := Option.some.inj H
  go_enter Tryz.func56, Tryz.ntmps56
  go_wp2
  go_ret
  exact ⟨aq7, aq11⟩
def impl_isSize.f (a0 : Int) (a1 : Int) : Option (Bool) := (impl_within.f a0 1 7).bind fun t101 => (if t101 = true then ((impl_within.f a1 1 7).bind fun t102 => (if t102 = true then (some (decide ((wrap64 (a0 * a1)) ≤ 36))) else (some false))) else (some false))
set_option maxHeartbeats 8000000 in
set_option maxRecDepth 100000 in
theorem impl_isSize.calls (a0 : Int) (a1 : Int) (r : Bool) (w : World) (h : impl_isSize.f a0 a1 = some r) :
  Calls Tryz.prog 102 #[.int .i64 a0, .int .i64 a1] w fun e w' => e = .returned (.bool r) ∧ Drawn0 w w' := by
 have H : ((impl_within.f a0 1 7).bind fun t101 => (if t101 = true then ((impl_within.f a1 1 7).bind fun t102 => (if t102 = true then (some (decide ((wrap64 (a0 * a1)) ≤ 36))) else (some false))) else (some false))) = some r := h
 clear h
 obtain ⟨t101, A30, H⟩ := Option.bind_eq_some_iff.mp H
 have A3 := am A30
 clear A30
 by_cases c4 : t101 = true
 ·subst c4
  rw [if_pos rfl] at H
  obtain ⟨t102, A50, H⟩ := Option.bind_eq_some_iff.mp H
  have A5 := am A50
  clear A50
  by_cases c6 : t102 = true
  ·subst c6
   rw [if_pos rfl] at H
   obtain rfl := Option.some.inj H
   go_enter Tryz.func102, Tryz.ntmps102
   go_wp2_with (first | ((with_reducible refine gate_callee (f := 56) rfl ?_); refine goesL_ (some 6) rfl rfl Tryz.func56 (by kernel_rfl) rfl #[.int .i64 a0, .int .i64 1, .int .i64 7] rfl aq5 ?_; (with_reducible refine (impl_within.calls a0 1 7 true _ A3.out).mono ?_); rintro e w' ⟨rfl, ⟨nd, rfl⟩⟩; refine ⟨_, rfl, ?_⟩) | (go_at_call 56; (with_reducible refine (impl_within.calls a1 1 7 true _ A5.out).mono ?_); rintro e w' ⟨rfl, ⟨nd, rfl⟩⟩))
   go_ret
   exact ⟨aq7, aq11⟩
  ·replace c6 := Bool.eq_false_iff.mpr c6
   subst c6
   rw [if_neg Bool.false_ne_true] at H
   obtain rfl := Option.some.inj H
   go_enter Tryz.func102, Tryz.ntmps102
   go_wp2_with (first | ((with_reducible refine gate_callee (f := 56) rfl ?_); refine goesL_ (some 6) rfl rfl Tryz.func56 (by kernel_rfl) rfl #[.int .i64 a0, .int .i64 1, .int .i64 7] rfl aq5 ?_; (with_reducible refine (impl_within.calls a0 1 7 true _ A3.out).mono ?_); rintro e w' ⟨rfl, ⟨nd, rfl⟩⟩; refine ⟨_, rfl, ?_⟩) | (go_at_call 56; (with_reducible refine (impl_within.calls a1 1 7 false _ A5.out).mono ?_); rintro e w' ⟨rfl, ⟨nd, rfl⟩⟩))
   go_ret
   exact ⟨aq7, aq11⟩
 ·replace c4 := Bool.eq_false_iff.mpr c4
  subst c4
  rw [if_neg Bool.false_ne_true] at H
  obtain rfl := Option.some.inj H
  go_enter Tryz.func102, Tryz.ntmps102
  go_wp2_with (first | ((with_reducible refine gate_callee (f := 56) rfl ?_); refine goesL_ (some 6) rfl rfl Tryz.func56 (by kernel_rfl) rfl #[.int .i64 a0, .int .i64 1, .int .i64 7] rfl aq5 ?_; (with_reducible refine (impl_within.calls a0 1 7 false _ A3.out).mono ?_); rintro e w' ⟨rfl, ⟨nd, rfl⟩⟩; refine ⟨_, rfl, ?_⟩))
  go_ret
  exact ⟨aq7, aq11⟩
mutual
def impl_IsTray.l0 : Nat → ByteArray → List ByteArray → List ByteArray → Int → Int → Option (Bool)
 | 0, _, _, _, _, _ => none
 | k + 1, x0, x3, x17, x18, x19 => if x19 < x18 then (if 0 ≤ x19 then (if x19 < (x17.length : Int) then (if 0 < (x3.length : Int) then (if ((rdOf ByteArray.empty x17 x19).size : Int) = ((rdOf ByteArray.empty x3 0).size : Int) then ((strings_Trim.f (rdOf ByteArray.empty x17 x19) (⟨#[35, 46, 111, 97, 98, 99, 100, 101, 102]⟩ : ByteArray)).bind fun t108 => (if t108.toList = ([] : List UInt8) then (impl_IsTray.l0 k x0 x3 x17 x18 (wrap64 (x19 + 1))) else (some false))) else (some false)) else (none)) else (none)) else (none)) else (impl_IsTray.l1 k x0 97)
def impl_IsTray.l1 : Nat → ByteArray → Int → Option (Bool)
 | 0, _, _ => none
 | k + 1, x0, x6 => if x6 ≤ 102 then ((strings_Count.f x0 (Utf8.encode x6)).bind fun t109 => (if t109 > 1 then (some false) else (impl_IsTray.l1 k x0 (wrap32 (x6 + 1))))) else (some true)
end
def impl_IsTray.f (k : Nat) (a0 : ByteArray) : Option (Bool) := (strings_Split.f a0 (⟨#[47]⟩ : ByteArray)).bind fun t101 => (if 0 < (t101.length : Int) then ((impl_isSize.f ((rdOf ByteArray.empty t101 0).size : Int) (t101.length : Int)).bind fun t105 => (if t105 = true then (impl_IsTray.l0 k a0 t101 t101 (t101.length : Int) 0) else (some false))) else (none))
theorem impl_IsTray.mono_l : ∀ k, (∀ y0 y1 y2 y3 y4, LeO (impl_IsTray.l0 k y0 y1 y2 y3 y4) (impl_IsTray.l0 (k + 1) y0 y1 y2 y3 y4)) ∧ (∀ y0 y1, LeO (impl_IsTray.l1 k y0 y1) (impl_IsTray.l1 (k + 1) y0 y1))
 | 0 => ⟨fun _ _ _ _ _ r h => by simp [impl_IsTray.l0] at h, fun _ _ r h => by simp [impl_IsTray.l1] at h⟩
 | k + 1 => by
  obtain ⟨ih0, ih1⟩ := impl_IsTray.mono_l k
  refine ⟨?_, ?_⟩
  ·intro y0 y1 y2 y3 y4
   unfold impl_IsTray.l0
   exact mo
  ·intro y0 y1
   unfold impl_IsTray.l1
   exact mo
theorem impl_IsTray.mono : ∀ a0 k, LeO (impl_IsTray.f k a0) (impl_IsTray.f (k + 1) a0) := by
 intro a0 k
 obtain ⟨ih0, ih1⟩ := impl_IsTray.mono_l k
 unfold impl_IsTray.f
 exact mo
set_option maxHeartbeats 8000000 in
set_option maxRecDepth 100000 in
theorem impl_IsTray.calls (k : Nat) (a0 : ByteArray) (r : Bool) (w : World) (h : impl_IsTray.f k a0 = some r) :
  Calls Tryz.prog 55 #[.string a0] w fun e w' => e = .returned (.bool r) ∧ Below w.heap.size w w' := by
 have HB := am (Below.refl w.heap.size w)
 have H : ((strings_Split.f a0 (⟨#[47]⟩ : ByteArray)).bind fun t101 => (if 0 < (t101.length : Int) then ((impl_isSize.f ((rdOf ByteArray.empty t101 0).size : Int) (t101.length : Int)).bind fun t105 => (if t105 = true then (impl_IsTray.l0 k a0 t101 t101 (t101.length : Int) 0) else (some false))) else (none))) = some r := h
 clear h
 obtain ⟨t101, A20, H⟩ := Option.bind_eq_some_iff.mp H
 have A2 := am A20
 clear A20
 by_cases c3 : 0 < (t101.length : Int)
 ·rw [if_pos c3] at H
  have c3b0 := decide_eq_true c3
  have c3b1 : decide (0 < t101.length) = true := decide_eq_true (by omega)
  clear c3
  obtain ⟨t105, A40, H⟩ := Option.bind_eq_some_iff.mp H
  have A4 := am A40
  clear A40
  by_cases c5 : t105 = true
  ·subst c5
   rw [if_pos rfl] at H
   have H' := am H
   clear H
   go_enter Tryz.func55, Tryz.ntmps55
   go_wp2_with (first | ((with_reducible refine gate_callee (f := 101) rfl ?_); refine goesL_ (some 8) rfl rfl Tryz.func101 (by kernel_rfl) rfl #[.string a0, .string (⟨#[47]⟩ : ByteArray)] rfl aq5 ?_; (with_reducible refine (strings_Split.calls a0 (⟨#[47]⟩ : ByteArray) t101 _ A2.out).mono ?_); rintro e w6 ⟨v102, rfl, ho0, hb⟩; refine ⟨_, rfl, ?_⟩; have n0_ := am (Kd.R_lower ho0 (below_size aq1)); have n1_ := am (below_step aq1 hb); clear HB; have HO103 := n0_; have HB := n1_; clear n0_ n1_; (try clear hb); (try clear hb2); (try clear hk); (try clear hi); (try clear ho0); obtain ⟨Ao7, co7, eo7⟩ := Kd.R_slice HO103.out; subst eo7; have p104 : 0 ≤ (0 : Int) := (by omega); have q104 : 0 < (t101.length : Int) := of_decide_eq_true aq4; obtain ⟨ad104, e104, hx104_0⟩ := Kd.at_string (Kd.R_reads' HO103.out).2.2 0 p104 q104; cases e104; have qi104 : (0 < t101.length) = True := eq_true (by omega); (try rw [show ((0 : Int)).toNat = 0 from rfl] at hx104_0); (try rw [Addr.add_zero'] at hx104_0); replace p104 := eq_true p104; replace q104 := eq_true q104) | ((with_reducible refine gate_callee (f := 102) rfl ?_); refine goesL_ (some 15) rfl rfl Tryz.func102 (by kernel_rfl) rfl #[.int .i64 ((rdOf ByteArray.empty t101 0).size : Int), .int .i64 (t101.length : Int)] rfl aq5 ?_; (with_reducible refine (impl_isSize.calls ((rdOf ByteArray.empty t101 0).size : Int) (t101.length : Int) true _ A4.out).mono ?_); rintro e w' ⟨rfl, ⟨nd, rfl⟩⟩; refine ⟨_, rfl, ?_⟩))
   go_loopg [19] k (fun kq v19 w' => ∃ (x19_1 : Int), v19 = .int .i64 x19_1 ∧ Aside0 (impl_IsTray.l0 kq a0 t101 t101 (t101.length : Int) x19_1 = some r) ∧ Aside0 (kq ≤ k) ∧ Aside0 (Kd.R Kd.string 9 w' w.heap.size (fun _ => True) (.slice (some ad104) t101.length co7) t101) ∧ Aside0 (Kd.R Kd.string 9 w' w.heap.size (fun _ => True) (.slice (some ad104) t101.length co7) t101) ∧ Aside0 (Below w.heap.size w w'))
   case atStart => exact ⟨(0), aq7, H', ⟨Nat.le_refl _⟩, ⟨aq26⟩, ⟨aq26⟩, ⟨aq1⟩⟩
   case round =>
    clear H'
    try clear c1
    try clear p1
    try clear q1
    try clear hx1
    try clear qi1
    try clear p2
    try clear c3
    try clear c3b0
    try clear c3b1
    try clear c5
    try clear hx104_0
    try clear p104
    try clear q104
    obtain ⟨x19_1, rfl, HA, HK1, HO_3, HO_17, HB⟩ := hrel
    cases gk with
    | zero => exact absurd HA.out (by simp [impl_IsTray.l0])
    | succ k1 =>
     have H := HA.out
     clear HA
     simp only [impl_IsTray.l0] at H
     by_cases c8 : x19_1 < (t101.length : Int)
     ·rw [if_pos c8] at H
      have c8b0 := decide_eq_true c8
      clear c8
      by_cases c9 : 0 ≤ x19_1
      ·rw [if_pos c9] at H
       have c9b0 := decide_eq_true c9
       clear c9
       by_cases c10 : x19_1 < (t101.length : Int)
       ·rw [if_pos c10] at H
        have c10b0 := decide_eq_true c10
        clear c10
        by_cases c11 : 0 < (t101.length : Int)
        ·rw [if_pos c11] at H
         have c11b0 := decide_eq_true c11
         have c11b1 : decide (0 < t101.length) = true := decide_eq_true (by omega)
         clear c11
         by_cases c12 : ((rdOf ByteArray.empty t101 x19_1).size : Int) = ((rdOf ByteArray.empty t101 0).size : Int)
         ·rw [if_pos c12] at H
          have c12b0 := beq_iff_eq.mpr c12
          have c12b1 := bne_eq_false_iff_eq.mpr c12
          have c12b2 : ((rdOf ByteArray.empty t101 x19_1).size == (rdOf ByteArray.empty t101 0).size) = true := by first | simpa using c12 | (simp at c12 ⊢; omega)
          clear c12
          obtain ⟨t108, A130, H⟩ := Option.bind_eq_some_iff.mp H
          have A13 := am A130
          clear A130
          by_cases c14 : t108.toList = ([] : List UInt8)
          ·rw [if_pos c14] at H
           have c14b0 := beq_iff_eq.mpr c14
           have c14b1 := bne_eq_false_iff_eq.mpr c14
           clear c14
           have H' := am H
           clear H
           have p106 : 0 ≤ (x19_1 : Int) := of_decide_eq_true aq4
           have q106 : x19_1 < (t101.length : Int) := of_decide_eq_true aq4
           obtain ⟨ad106, e106, hx106_0⟩ := Kd.at_string (Kd.R_reads' HO_17.out).2.2 x19_1 p106 q106
           obtain rfl : ad104 = ad106 := (by injection e106)
           replace p106 := eq_true p106
           replace q106 := eq_true q106
           have p107 : 0 ≤ (0 : Int) := (by omega)
           have q107 : 0 < (t101.length : Int) := of_decide_eq_true aq4
           obtain ⟨ad107, e107, hx107_0⟩ := Kd.at_string (Kd.R_reads' HO_3.out).2.2 0 p107 q107
           obtain rfl : ad104 = ad107 := (by injection e107)
           have qi107 : (0 < t101.length) = True := eq_true (by omega)
           (try rw [show ((0 : Int)).toNat = 0 from rfl] at hx107_0)
           (try rw [Addr.add_zero'] at hx107_0)
           replace p107 := eq_true p107
           replace q107 := eq_true q107
           go_wp2_with (first | (go_at_call 103; (with_reducible refine (strings_Trim.calls (rdOf ByteArray.empty t101 x19_1) (⟨#[35, 46, 111, 97, 98, 99, 100, 101, 102]⟩ : ByteArray) t108 _ A13.out).mono ?_); rintro e w15 ⟨rfl, hb⟩; have n0_ := am (Kd.R_below aq49 hb); have n1_ := am (Kd.R_below aq56 hb); have n2_ := am (below_step aq1 hb); clear HO_3; clear HO_17; clear HB; have HO_3 := n0_; have HO_17 := n1_; have HB := n2_; clear n0_ n1_ n2_; (try clear hb); (try clear hb2); (try clear hk); (try clear hi)))
           go_roundg k1
           case measure => have := HK1.out; omega
           case rel => exact ⟨(wrap64 (x19_1 + 1)), aq7, H', ⟨aq73⟩, ⟨aq49⟩, ⟨aq56⟩, ⟨aq1⟩⟩
          ·rw [if_neg c14] at H
           have c14b0 := beq_eq_false_iff_ne.mpr c14
           have c14b1 := bne_iff_ne.mpr c14
           obtain rfl := Option.some.inj H
           have p106 : 0 ≤ (x19_1 : Int) := of_decide_eq_true aq4
           have q106 : x19_1 < (t101.length : Int) := of_decide_eq_true aq4
           obtain ⟨ad106, e106, hx106_0⟩ := Kd.at_string (Kd.R_reads' HO_17.out).2.2 x19_1 p106 q106
           obtain rfl : ad104 = ad106 := (by injection e106)
           replace p106 := eq_true p106
           replace q106 := eq_true q106
           have p107 : 0 ≤ (0 : Int) := (by omega)
           have q107 : 0 < (t101.length : Int) := of_decide_eq_true aq4
           obtain ⟨ad107, e107, hx107_0⟩ := Kd.at_string (Kd.R_reads' HO_3.out).2.2 0 p107 q107
           obtain rfl : ad104 = ad107 := (by injection e107)
           have qi107 : (0 < t101.length) = True := eq_true (by omega)
           (try rw [show ((0 : Int)).toNat = 0 from rfl] at hx107_0)
           (try rw [Addr.add_zero'] at hx107_0)
           replace p107 := eq_true p107
           replace q107 := eq_true q107
           go_wp2_with (first | (go_at_call 103; (with_reducible refine (strings_Trim.calls (rdOf ByteArray.empty t101 x19_1) (⟨#[35, 46, 111, 97, 98, 99, 100, 101, 102]⟩ : ByteArray) t108 _ A13.out).mono ?_); rintro e w16 ⟨rfl, hb⟩; have n0_ := am (Kd.R_below aq49 hb); have n1_ := am (Kd.R_below aq56 hb); have n2_ := am (below_step aq1 hb); clear HO_3; clear HO_17; clear HB; have HO_3 := n0_; have HO_17 := n1_; have HB := n2_; clear n0_ n1_ n2_; (try clear hb); (try clear hb2); (try clear hk); (try clear hi)))
           go_ret
           exact ⟨aq8, aq1⟩
         ·rw [if_neg c12] at H
          have c12b0 := beq_eq_false_iff_ne.mpr c12
          have c12b1 := bne_iff_ne.mpr c12
          have c12b2 : ((rdOf ByteArray.empty t101 x19_1).size == (rdOf ByteArray.empty t101 0).size) = false := by first | simpa using c12 | (simp at c12 ⊢; omega)
          obtain rfl := Option.some.inj H
          have p106 : 0 ≤ (x19_1 : Int) := of_decide_eq_true aq4
          have q106 : x19_1 < (t101.length : Int) := of_decide_eq_true aq4
          obtain ⟨ad106, e106, hx106_0⟩ := Kd.at_string (Kd.R_reads' HO_17.out).2.2 x19_1 p106 q106
          obtain rfl : ad104 = ad106 := (by injection e106)
          replace p106 := eq_true p106
          replace q106 := eq_true q106
          have p107 : 0 ≤ (0 : Int) := (by omega)
          have q107 : 0 < (t101.length : Int) := of_decide_eq_true aq4
          obtain ⟨ad107, e107, hx107_0⟩ := Kd.at_string (Kd.R_reads' HO_3.out).2.2 0 p107 q107
          obtain rfl : ad104 = ad107 := (by injection e107)
          have qi107 : (0 < t101.length) = True := eq_true (by omega)
          (try rw [show ((0 : Int)).toNat = 0 from rfl] at hx107_0)
          (try rw [Addr.add_zero'] at hx107_0)
          replace p107 := eq_true p107
          replace q107 := eq_true q107
          go_wp2
          go_ret
          exact ⟨aq8, aq1⟩
        ·rw [if_neg c11] at H
         exact absurd H (by simp)
       ·rw [if_neg c10] at H
        exact absurd H (by simp)
      ·rw [if_neg c9] at H
       exact absurd H (by simp)
     ·rw [if_neg c8] at H
      have c8b0 := decide_eq_false c8
      clear c8
      have H' := am H
      clear H
      go_wp2
      go_loopg [6] k1 (fun kq v6 w' => ∃ (x6_2 : Int), v6 = .int .i32 x6_2 ∧ Aside0 (impl_IsTray.l1 kq a0 x6_2 = some r) ∧ Aside0 (kq ≤ k1) ∧ Aside0 (Below w.heap.size w w'))
      case atStart => exact ⟨(97), aq7, H', ⟨Nat.le_refl _⟩, ⟨aq1⟩⟩
      case round =>
       clear H'
       try clear c1
       try clear p1
       try clear q1
       try clear hx1
       try clear qi1
       try clear p2
       try clear c3
       try clear c3b0
       try clear c3b1
       try clear c5
       try clear p6
       try clear c8
       try clear c8b0
       try clear c9
       try clear c9b0
       try clear c10
       try clear c10b0
       try clear p10
       try clear q10
       try clear hx10
       try clear qi10
       try clear c11
       try clear c11b0
       try clear c11b1
       try clear c12
       try clear c12b0
       try clear c12b1
       try clear c12b2
       try clear c14
       try clear c14b0
       try clear c14b1
       try clear hx104_0
       try clear hx106_0
       try clear hx107_0
       try clear p1
       try clear p104
       try clear p106
       try clear p107
       try clear p2
       try clear q1
       try clear q104
       try clear q106
       try clear q107
       obtain ⟨x6_2, rfl, HA, HK2, HB⟩ := hrel
       cases gk with
       | zero => exact absurd HA.out (by simp [impl_IsTray.l1])
       | succ k2 =>
        have H := HA.out
        clear HA
        simp only [impl_IsTray.l1] at H
        by_cases c17 : x6_2 ≤ 102
        ·rw [if_pos c17] at H
         have c17b0 := decide_eq_true c17
         clear c17
         obtain ⟨t109, A180, H⟩ := Option.bind_eq_some_iff.mp H
         have A18 := am A180
         clear A180
         by_cases c19 : t109 > 1
         ·rw [if_pos c19] at H
          have c19b0 := decide_eq_true c19
          clear c19
          obtain rfl := Option.some.inj H
          go_wp2_with (first | ((with_reducible refine gate_callee (f := 104) rfl ?_); refine goesL_ (some 43) rfl rfl Tryz.func104 (by kernel_rfl) rfl #[.string a0, .string (Utf8.encode x6_2)] rfl aq5 ?_; (with_reducible refine (strings_Count.calls a0 (Utf8.encode x6_2) t109 _ A18.out).mono ?_); rintro e w' ⟨rfl, ⟨nd, rfl⟩⟩; refine ⟨_, rfl, ?_⟩))
          go_ret
          exact ⟨aq8, aq1⟩
         ·rw [if_neg c19] at H
          have c19b0 := decide_eq_false c19
          clear c19
          have H' := am H
          clear H
          go_wp2_with (first | ((with_reducible refine gate_callee (f := 104) rfl ?_); refine goesL_ (some 43) rfl rfl Tryz.func104 (by kernel_rfl) rfl #[.string a0, .string (Utf8.encode x6_2)] rfl aq5 ?_; (with_reducible refine (strings_Count.calls a0 (Utf8.encode x6_2) t109 _ A18.out).mono ?_); rintro e w' ⟨rfl, ⟨nd, rfl⟩⟩; refine ⟨_, rfl, ?_⟩))
          go_roundg k2
          case measure => have := HK1.out; have := HK2.out; omega
          case rel => exact ⟨(wrap32 (x6_2 + 1)), aq7, H', ⟨aq64⟩, ⟨aq1⟩⟩
        ·rw [if_neg c17] at H
         have c17b0 := decide_eq_false c17
         clear c17
         obtain rfl := Option.some.inj H
         go_wp2
         go_ret
         exact ⟨aq8, aq1⟩
  ·replace c5 := Bool.eq_false_iff.mpr c5
   subst c5
   rw [if_neg Bool.false_ne_true] at H
   obtain rfl := Option.some.inj H
   go_enter Tryz.func55, Tryz.ntmps55
   go_wp2_with (first | ((with_reducible refine gate_callee (f := 101) rfl ?_); refine goesL_ (some 8) rfl rfl Tryz.func101 (by kernel_rfl) rfl #[.string a0, .string (⟨#[47]⟩ : ByteArray)] rfl aq5 ?_; (with_reducible refine (strings_Split.calls a0 (⟨#[47]⟩ : ByteArray) t101 _ A2.out).mono ?_); rintro e w20 ⟨v102, rfl, ho0, hb⟩; refine ⟨_, rfl, ?_⟩; have n0_ := am (Kd.R_lower ho0 (below_size aq1)); have n1_ := am (below_step aq1 hb); clear HB; have HO103 := n0_; have HB := n1_; clear n0_ n1_; (try clear hb); (try clear hb2); (try clear hk); (try clear hi); (try clear ho0); obtain ⟨Ao21, co21, eo21⟩ := Kd.R_slice HO103.out; subst eo21; have p104 : 0 ≤ (0 : Int) := (by omega); have q104 : 0 < (t101.length : Int) := of_decide_eq_true aq4; obtain ⟨ad104, e104, hx104_0⟩ := Kd.at_string (Kd.R_reads' HO103.out).2.2 0 p104 q104; cases e104; have qi104 : (0 < t101.length) = True := eq_true (by omega); (try rw [show ((0 : Int)).toNat = 0 from rfl] at hx104_0); (try rw [Addr.add_zero'] at hx104_0); replace p104 := eq_true p104; replace q104 := eq_true q104) | ((with_reducible refine gate_callee (f := 102) rfl ?_); refine goesL_ (some 15) rfl rfl Tryz.func102 (by kernel_rfl) rfl #[.int .i64 ((rdOf ByteArray.empty t101 0).size : Int), .int .i64 (t101.length : Int)] rfl aq5 ?_; (with_reducible refine (impl_isSize.calls ((rdOf ByteArray.empty t101 0).size : Int) (t101.length : Int) false _ A4.out).mono ?_); rintro e w' ⟨rfl, ⟨nd, rfl⟩⟩; refine ⟨_, rfl, ?_⟩))
   go_ret
   exact ⟨aq8, aq1⟩
 ·rw [if_neg c3] at H
  exact absurd H (by simp)
end Go.Proofs.YtdffgeoegdkiaaaGreatDoor.F

namespace Go.Proofs.YtdffgeoegdkiaaaGreatDoor.F
open Go.RowKit Go.Proofs.YtdffgeoegdkiaaaGreatDoor Go.Proofs.YtdffgeoegdkiaaaGreatDoorW.PrintWords Classical
theorem spec_tyBall_eq (c : Int) : spec_tyBall.f c = some (isBallC c) := by
  unfold spec_tyBall.f isBallC isNameC
  by_cases h3 : c = 111
  · simp [h3]
  simp only [if_neg h3]
  by_cases h4 : c ≥ 97
  · simp [h3, h4]
  · simp [h3, h4]
theorem spec_tyIs_eq (c : Int) : spec_tyIs.f c = some (isCellC c) := by
  unfold spec_tyIs.f isCellC
  rw [spec_tyBall_eq]
  by_cases h1 : c = 35
  · simp [h1]
  by_cases h2 : c = 46
  · simp [h2]
  simp [h1, h2]
def ansT : Option (Nat × Nat × List Int) → Int × Int × List Int × Bool
  | none => (0, 0, [], false)
  | some (w, h, cs) => (w, h, cs, true)
def finT (w h : Nat) (cs : List Int) : Option (Nat × Nat × List Int) := if w ≤ 7 ∧ h ≤ 7 ∧ cs.length ≤ 36 ∧ namesOk cs then some (w, h, cs) else none
theorem tyRead_l2 (cs : List Int) (hl : cs.length ≤ 100) (w h : Int) (i : Nat) (hi : i < cs.length) (r : Int × Int × List Int × Bool)
    (hk : Ev (fun k => spec_tyRead.l1 k cs cs.length (i + 1 : Nat) w h cs) r) : ∀ (d j : Nat), j + d = i → 
    Ev (fun k => spec_tyRead.l2 k (rd cs i) cs cs.length i (cs.take i) ((cs.take i).length : Int) j w h cs)
      (if ∀ m, j ≤ m → m < i → cs.getD m 0 = cs.getD i 0 → isNameC (cs.getD i 0) = false then r else (0, 0, [], false)) := by
  have hti : (cs.take i).length = i := by rw [List.length_take]; omega
  intro d
  induction d with
  | zero =>
    intro j hj
    rw [if_pos (by intro m h1 h2; omega)]
    refine Ev.step (f := fun k => spec_tyRead.l1 k cs cs.length (i + 1 : Nat) w h cs) (fun k => ?_) hk
    rw [spec_tyRead.l2, hti, if_neg (by omega), w64 (by omega) (by omega)]
    rfl
  | succ d ih =>
    intro j hj
    have hih := ih (j + 1) (by omega)
    have hr : rd (cs.take i) j = cs.getD j 0 := by
      unfold rd
      rw [Int.toNat_natCast, List.getD_eq_getElem?_getD, List.getD_eq_getElem?_getD, List.getElem?_take, if_pos (by omega)]
    have hr2 : rd cs i = cs.getD i 0 := by unfold rd; rw [Int.toNat_natCast]
    have hw : wrap64 ((j : Int) + 1) = ((j + 1 : Nat) : Int) := by rw [w64 (by omega) (by omega)]; rfl
    by_cases he : cs.getD j 0 = cs.getD i 0
    · by_cases hn : isNameC (cs.getD i 0) = false
      · have hc : (∀ m, j ≤ m → m < i → cs.getD m 0 = cs.getD i 0 → isNameC (cs.getD i 0) = false) := fun _ _ _ _ => hn
        have hc2 : (∀ m, j + 1 ≤ m → m < i → cs.getD m 0 = cs.getD i 0 → isNameC (cs.getD i 0) = false) := fun _ _ _ _ => hn
        rw [if_pos hc]
        rw [if_pos hc2] at hih
        refine Ev.step (fun k => ?_) hih
        rw [spec_tyRead.l2, hti, if_pos (by omega), if_pos (by omega), if_pos (by omega), hr, hr2, if_pos he.symm, hw]
        have : ¬ (97 ≤ cs.getD i 0 ∧ cs.getD i 0 ≤ 102) := fun e => by rw [(isNameC_iff _).2 e] at hn; cases hn
        by_cases h97 : cs.getD i 0 ≥ 97
        · rw [if_pos h97, if_neg (by omega)]
        · rw [if_neg h97]
      · have hn2 : isNameC (cs.getD i 0) = true := by simpa using hn
        have h3 := (isNameC_iff _).1 hn2
        rw [if_neg (fun hc => hn (hc j (Nat.le_refl _) (by omega) he))]
        refine Ev.step (f := fun k => some (0, 0, [], false)) (fun k => ?_) (Ev.now _)
        rw [spec_tyRead.l2, hti, if_pos (by omega), if_pos (by omega), if_pos (by omega), hr, hr2, if_pos he.symm, if_pos (by omega), if_pos (by omega)]
    · have hc : (∀ m, j ≤ m → m < i → cs.getD m 0 = cs.getD i 0 → isNameC (cs.getD i 0) = false) ↔ (∀ m, j + 1 ≤ m → m < i → cs.getD m 0 = cs.getD i 0 → isNameC (cs.getD i 0) = false) := by
        constructor
        · intro hh m h1 h2; exact hh m (by omega) h2
        · intro hh m h1 h2 h3
          rcases Nat.lt_or_ge j m with h4 | h4
          · exact hh m h4 h2 h3
          · obtain rfl : m = j := by omega
            exact absurd h3 he
      simp only [hc]
      refine Ev.step (fun k => ?_) hih
      rw [spec_tyRead.l2, hti, if_pos (by omega), if_pos (by omega), if_pos (by omega), hr, hr2, if_neg (fun e => he e.symm), hw]
theorem tyRead_l1 (cs : List Int) (hl : cs.length ≤ 100) (w h : Nat) : ∀ (d i : Nat), i + d = cs.length →
    Ev (fun k => spec_tyRead.l1 k cs cs.length i w h cs)
      (if ∀ m, i ≤ m → m < cs.length → ∀ j, j < m → cs.getD j 0 = cs.getD m 0 → isNameC (cs.getD m 0) = false then (w, h, cs, true) else (0, 0, [], false)) := by
  intro d
  induction d with
  | zero =>
    intro i hi
    rw [if_pos (by intro m h1 h2; omega)]
    refine Ev.step (f := fun k => some ((w : Int), (h : Int), cs, true)) (fun k => ?_) (Ev.now _)
    rw [spec_tyRead.l1, if_neg (by omega)]
  | succ d ih =>
    intro i hi
    have h2 := tyRead_l2 cs hl w h i (by omega) _ (ih (i + 1) (by omega)) i 0 (by omega)
    have hc : (if ∀ m, 0 ≤ m → m < i → cs.getD m 0 = cs.getD i 0 → isNameC (cs.getD i 0) = false then
        (if ∀ m, i + 1 ≤ m → m < cs.length → ∀ j, j < m → cs.getD j 0 = cs.getD m 0 → isNameC (cs.getD m 0) = false then ((w : Int), (h : Int), cs, true) else (0, 0, [], false)) else (0, 0, [], false)) =
        (if ∀ m, i ≤ m → m < cs.length → ∀ j, j < m → cs.getD j 0 = cs.getD m 0 → isNameC (cs.getD m 0) = false then ((w : Int), (h : Int), cs, true) else (0, 0, [], false)) := by
      by_cases h3 : ∀ m, i ≤ m → m < cs.length → ∀ j, j < m → cs.getD j 0 = cs.getD m 0 → isNameC (cs.getD m 0) = false
      · rw [if_pos h3, if_pos (fun m _ hm => h3 i (Nat.le_refl _) (by omega) m hm), if_pos (fun m hm => h3 m (by omega))]
      · rw [if_neg h3]
        by_cases h4 : ∀ m, 0 ≤ m → m < i → cs.getD m 0 = cs.getD i 0 → isNameC (cs.getD i 0) = false
        · rw [if_pos h4, if_neg]
          intro h5
          refine h3 (fun m h6 h7 j h8 => ?_)
          rcases Nat.lt_or_ge i m with h9 | h9
          · exact h5 m h9 h7 j h8
          · obtain rfl : m = i := by omega
            exact h4 j (Nat.zero_le _) h8
        · rw [if_neg h4]
    rw [hc] at h2
    refine Ev.step (fun k => ?_) h2
    rw [spec_tyRead.l1, if_pos (by omega), if_pos (by omega), if_pos (by omega), if_pos (by omega)]
    simp only [Option.bind_some, Int.toNat_natCast]
    rfl
theorem tyRead_fin (w h : Nat) (cs : List Int) (hl : cs.length ≤ 100) :
    Ev (fun k => if (w : Int) > 7 then spec_tyRead.j2 k true w h cs else if (h : Int) > 7 then spec_tyRead.j2 k true w h cs else spec_tyRead.j2 k (decide ((cs.length : Int) > 36)) w h cs) (ansT (finT w h cs)) := by
  have hno : Ev (fun k => spec_tyRead.j2 k true w h cs) (0, 0, [], false) := Ev.step (f := fun _ => some (0, 0, [], false)) (fun k => by rw [spec_tyRead.j2, if_pos rfl]) (Ev.now _)
  unfold finT
  by_cases h1 : (w : Int) > 7
  · simp only [if_pos h1]; rw [if_neg (by omega)]; exact hno
  simp only [if_neg h1]
  by_cases h2 : (h : Int) > 7
  · simp only [if_pos h2]; rw [if_neg (by omega)]; exact hno
  simp only [if_neg h2]
  by_cases h3 : (cs.length : Int) > 36
  · simp only [decide_eq_true h3]; rw [if_neg (by omega)]; exact hno
  · simp only [decide_eq_false h3]
    have h4 := tyRead_l1 cs hl w h cs.length 0 (by omega)
    have hc : (if ∀ m, 0 ≤ m → m < cs.length → ∀ j, j < m → cs.getD j 0 = cs.getD m 0 → isNameC (cs.getD m 0) = false then ((w : Int), (h : Int), cs, true) else (0, 0, [], false)) = ansT (if w ≤ 7 ∧ h ≤ 7 ∧ cs.length ≤ 36 ∧ namesOk cs then some (w, h, cs) else none) := by
      unfold namesOk
      by_cases h5 : ∀ m, m < cs.length → ∀ j, j < m → cs.getD j 0 = cs.getD m 0 → isNameC (cs.getD m 0) = false
      · rw [if_pos (fun m _ => h5 m), if_pos ⟨by omega, by omega, by omega, h5⟩]; rfl
      · rw [if_neg (fun e => h5 (fun m => e m (Nat.zero_le _))), if_neg (fun e => h5 e.2.2.2)]; rfl
    rw [hc] at h4
    refine Ev.step (fun k => ?_) h4
    rw [spec_tyRead.j2, if_neg (by decide)]
    rfl
theorem tyRead_l0 (s : ByteArray) (hs : s.size ≤ 42) : ∀ (d i x w h : Nat) (cs : List Int), i + d = s.size → x ≤ i → w ≤ i → h ≤ i → cs.length ≤ i →
    Ev (fun k => spec_tyRead.l0 k s x i w h cs) (ansT ((tyGo ((bytesOf s).drop i) x w h cs).bind fun z => finT z.1 z.2.1 z.2.2)) := by
  have hno : ∀ g : Nat → Option (Int × Int × List Int × Bool), (∀ k, g k = some (0, 0, [], false)) → Ev g (0, 0, [], false) := fun g hg => ⟨0, fun k _ => hg k⟩
  intro d
  induction d with
  | zero =>
    intro i x w h cs hi hx hw hh hc
    obtain rfl : i = s.size := by omega
    rw [bytesOf_all, tyGo]
    have hA : ∀ k, spec_tyRead.l0 (k + 1) s x s.size w h cs = spec_tyRead.j1 k s x s.size false w h cs := fun k => by
      rw [spec_tyRead.l0, if_pos (by omega), if_neg (by omega)]
    refine Ev.step hA ?_
    by_cases hbad : (0 < h ∧ x ≠ w) ∨ x = 0
    · rw [if_pos hbad]
      refine Ev.step (f := fun _ => some (0, 0, [], false)) (fun k => ?_) (Ev.now _)
      rw [spec_tyRead.j1, if_neg (by decide)]
      by_cases h0 : (h : Int) > 0
      · rw [if_pos h0]
        by_cases hxw : (x : Int) = w
        · rw [if_pos hxw, if_pos (by omega)]
        · rw [if_neg hxw]
      · rw [if_neg h0, if_pos (by omega)]
    · rw [if_neg hbad]
      have hfin := tyRead_fin x (h + 1) cs (by omega)
      have hB : ∀ k, spec_tyRead.j1 (k + 1) s x s.size false w h cs = spec_tyRead.l0 k s 0 (s.size + 1 : Nat) x (h + 1 : Nat) cs := fun k => by
        rw [spec_tyRead.j1, if_neg (by decide), w64 (n := (s.size : Int) + 1) (by omega) (by omega), w64 (n := (h : Int) + 1) (by omega) (by omega)]
        by_cases h0 : (h : Int) > 0
        · rw [if_pos h0, if_pos (by omega), if_neg (by omega)]; rfl
        · rw [if_neg h0, if_neg (by omega)]; rfl
      refine Ev.step hB (Ev.step (fun k => ?_) hfin)
      rw [spec_tyRead.l0, if_neg (by omega)]
  | succ d ih =>
    intro i x w h cs hi hx hw hh hc
    have hlt : i < s.size := by omega
    rw [bytesOf_drop s i hlt, tyGo]
    have hA : ∀ k, spec_tyRead.l0 (k + 1) s x i w h cs = spec_tyRead.j1 k s x i (bt s i != 47) w h cs := fun k => by
      rw [spec_tyRead.l0, if_pos (by omega), if_pos (by omega), if_pos (by omega)]
    refine Ev.step hA ?_
    by_cases h47 : bt s i = 47
    · rw [if_pos h47]
      have hb : (bt s i != 47) = false := by simp [h47]
      simp only [hb]
      by_cases hbad : (0 < h ∧ x ≠ w) ∨ x = 0
      · rw [if_pos hbad]
        refine Ev.step (f := fun _ => some (0, 0, [], false)) (fun k => ?_) (Ev.now _)
        rw [spec_tyRead.j1, if_neg (by decide)]
        by_cases h0 : (h : Int) > 0
        · rw [if_pos h0]
          by_cases hxw : (x : Int) = w
          · rw [if_pos hxw, if_pos (by omega)]
          · rw [if_neg hxw]
        · rw [if_neg h0, if_pos (by omega)]
      · rw [if_neg hbad]
        refine Ev.step (fun k => ?_) (ih (i + 1) 0 x (h + 1) cs (by omega) (by omega) (by omega) (by omega) (by omega))
        rw [spec_tyRead.j1, if_neg (by decide), w64 (n := (i : Int) + 1) (by omega) (by omega), w64 (n := (h : Int) + 1) (by omega) (by omega)]
        by_cases h0 : (h : Int) > 0
        · rw [if_pos h0, if_pos (by omega), if_neg (by omega)]; rfl
        · rw [if_neg h0, if_neg (by omega)]; rfl
    · rw [if_neg h47]
      have hb : (bt s i != 47) = true := by simp [h47]
      simp only [hb]
      by_cases hcell : isCellC (bt s i) = true
      · rw [if_pos hcell]
        refine Ev.step (fun k => ?_) (ih (i + 1) (x + 1) w h (cs ++ [bt s i]) (by omega) (by omega) (by omega) (by omega) (by simp; omega))
        rw [spec_tyRead.j1, if_pos rfl, if_pos (by omega), if_pos (by omega), spec_tyIs_eq, Option.bind_some, if_pos hcell, if_pos (by omega), w64 (by omega) (by omega), w64 (by omega) (by omega)]
        rfl
      · rw [if_neg hcell]
        refine Ev.step (f := fun _ => some (0, 0, [], false)) (fun k => ?_) (Ev.now _)
        rw [spec_tyRead.j1, if_pos rfl, if_pos (by omega), if_pos (by omega), spec_tyIs_eq, Option.bind_some, if_neg hcell]
theorem spec_tyRead_ev (s : ByteArray) : Ev (fun k => spec_tyRead.f k s) (ansT (tyGrid (bytesOf s))) := by
  unfold spec_tyRead.f tyGrid
  rw [bytesOf_length]
  by_cases h : (s.size : Int) > 42
  · simp only [if_pos h]; rw [if_pos (by omega)]; exact Ev.now _
  · simp only [if_neg h]; rw [if_neg (by omega)]
    have h0 := tyRead_l0 s (by omega) s.size 0 0 0 0 [] (by omega) (Nat.le_refl _) (Nat.le_refl _) (Nat.le_refl _) (Nat.le_refl _)
    rw [List.drop_zero] at h0
    cases hg : tyGo (bytesOf s) 0 0 0 [] with
    | none => rw [hg] at h0; exact h0
    | some z => rw [hg] at h0; exact h0
theorem impl_isSize_eq (w h : Int) (hw : 0 ≤ w ∧ w ≤ 4294967296) (hh : 0 ≤ h ∧ h ≤ 4294967296) : impl_isSize.f w h = some (decide ((1 ≤ w ∧ w ≤ 7) ∧ (1 ≤ h ∧ h ≤ 7) ∧ w * h ≤ 36)) := by
  unfold impl_isSize.f impl_within.f
  by_cases h1 : 1 ≤ w
  · by_cases h2 : w ≤ 7
    · by_cases h3 : 1 ≤ h
      · by_cases h4 : h ≤ 7
        · have h5 : w * h ≤ 7 * 7 := Int.mul_le_mul h2 h4 (by omega) (by omega)
          have h6 : 0 ≤ w * h := Int.mul_nonneg (by omega) (by omega)
          simp [h1, h2, h3, h4, w64 (n := w * h) (by omega) (by omega)]
        · simp [h1, h2, h3, h4]
      · simp [h1, h2, h3]
    · simp [h1, h2]
  · simp [h1]
theorem dropWhile_nil {α : Type} (p : α → Bool) : ∀ l : List α, l.dropWhile p = [] ↔ ∀ a ∈ l, p a = true
  | [] => by simp
  | a :: l => by
    rw [List.dropWhile_cons]
    by_cases h : p a = true
    · rw [if_pos h, dropWhile_nil p l]; simp [h]
    · rw [if_neg h]; simp [h]
theorem trimS_nil_iff (l cs : List UInt8) : Lib.trimS l cs = [] ↔ ∀ b ∈ l, b ∈ cs := by
  unfold Lib.trimS Lib.trimLeftS Lib.trimRightS
  rw [dropWhile_nil]
  constructor
  · intro h b hb
    rcases Classical.em (∀ b ∈ l, cs.contains b = true) with h1 | h1
    · simpa using h1 b hb
    · exfalso
      have h2 : ¬ l.reverse.dropWhile (cs.contains ·) = [] := by
        rw [dropWhile_nil]
        intro h3; exact h1 (fun b hb => h3 b (List.mem_reverse.2 hb))
      have h3 := List.head_dropWhile_not (cs.contains ·) (l := l.reverse) h2
      have h4 := h ((l.reverse.dropWhile (cs.contains ·)).head h2) (List.mem_reverse.2 (List.head_mem h2))
      rw [h3] at h4; cases h4
  · intro h b hb
    have : b ∈ l := by
      have h1 := List.mem_reverse.1 hb
      exact List.mem_reverse.1 ((List.dropWhile_sublist _).subset h1)
    simpa using h b this
theorem toList_nil_iff (s : ByteArray) : s.toList = [] ↔ s.data.toList = [] := by rw [Lib.toList_data]
theorem trim_nil (s cut t : ByteArray) (hs : s.size ≤ 9223372036854775807) (hc : cut.size < 4294967281) (ha : asciiB cut = true) :
    ∃ t, strings_Trim.f s cut = some t ∧ (t.toList = [] ↔ ∀ c ∈ bytesOf s, c ∈ bytesOf cut) := by
  refine ⟨_, if_pos ⟨hs, hc, ha⟩, ?_⟩
  rw [toList_nil_iff]
  simp only [trimS_nil_iff]
  unfold bytesOf
  constructor
  · intro h c hcm
    obtain ⟨b, hb, rfl⟩ := List.mem_map.1 hcm
    exact List.mem_map.2 ⟨b, h b hb, rfl⟩
  · intro h b hb
    obtain ⟨b', hb', he⟩ := List.mem_map.1 (h _ (List.mem_map.2 ⟨b, hb, rfl⟩))
    have : b' = b := UInt8.toNat_inj.1 (by omega)
    rwa [← this]
theorem cellSet (c : Int) : c ∈ bytesOf (⟨#[35, 46, 111, 97, 98, 99, 100, 101, 102]⟩ : ByteArray) ↔ isCellC c = true := by
  have : bytesOf (⟨#[35, 46, 111, 97, 98, 99, 100, 101, 102]⟩ : ByteArray) = [35, 46, 111, 97, 98, 99, 100, 101, 102] := by decide
  rw [this]
  unfold isCellC isBallC isNameC
  simp
  omega
theorem count_rune (s : ByteArray) (n : Nat) (h1 : 97 ≤ n) (h2 : n ≤ 102) : strings_Count.f s (Utf8.encode n) = some (((bytesOf s).count (n : Int) : Nat) : Int) := by
  have he : Utf8.encode (n : Int) = ⟨#[UInt8.ofNat n]⟩ := by
    have : n = 97 ∨ n = 98 ∨ n = 99 ∨ n = 100 ∨ n = 101 ∨ n = 102 := by omega
    rcases this with rfl | rfl | rfl | rfl | rfl | rfl <;> rfl
  rw [he]
  have h3 : strings_Count.f s ⟨#[UInt8.ofNat n]⟩ = some ((Lib.countByte s.data.toList (UInt8.ofNat n) : Nat) : Int) := if_pos rfl
  rw [h3]
  have hco : Lib.countByte s.data.toList (UInt8.ofNat n) = (bytesOf s).count (n : Int) := ?_
  · rw [hco]
  unfold Lib.countByte bytesOf
  have hn : (UInt8.ofNat n).toNat = n := by
    rw [UInt8.toNat_ofNat']; omega
  rw [List.count_eq_countP, List.count_eq_countP, List.countP_map]
  apply List.countP_congr
  intro b _
  simp only [beq_iff_eq, Function.comp]
  constructor
  · rintro rfl; omega
  · intro h; exact UInt8.toNat_inj.1 (by omega)
theorem IsTray_l1 (s : ByteArray) : ∀ (d n : Nat), n + d = 103 → 97 ≤ n → 
    Ev (fun k => impl_IsTray.l1 k s n) (decide (∀ m : Int, n ≤ m → m ≤ 102 → (bytesOf s).count m ≤ 1)) := by
  intro d
  induction d with
  | zero =>
    intro n hn _
    rw [decide_eq_true (by intro m h1 h2; omega)]
    exact Ev.step (f := fun _ => some true) (fun k => by rw [impl_IsTray.l1, if_neg (by omega)]) (Ev.now _)
  | succ d ih =>
    intro n hn h97
    have hih := ih (n + 1) (by omega) (by omega)
    by_cases hc : (bytesOf s).count (n : Int) > 1
    · rw [decide_eq_false (by intro h; have := h n (Int.le_refl _) (by omega); omega)]
      refine Ev.step (f := fun _ => some false) (fun k => ?_) (Ev.now _)
      rw [impl_IsTray.l1, if_pos (by omega), count_rune s n h97 (by omega), Option.bind_some, if_pos (by omega)]
    · have he : (∀ m : Int, n ≤ m → m ≤ 102 → (bytesOf s).count m ≤ 1) ↔ (∀ m : Int, (n + 1 : Nat) ≤ m → m ≤ 102 → (bytesOf s).count m ≤ 1) := by
        constructor
        · intro h m h1 h2; exact h m (by omega) h2
        · intro h m h1 h2
          rcases Int.lt_or_le n m with h3 | h3
          · exact h m (by omega) h2
          · obtain rfl : m = n := by omega
            omega
      simp only [he]
      refine Ev.step (fun k => ?_) hih
      rw [impl_IsTray.l1, if_pos (by omega), count_rune s n h97 (by omega), Option.bind_some, if_neg (by omega), w32 (by omega) (by omega)]
      rfl
theorem IsTray_l0 (s : ByteArray) (rows : List ByteArray) (r0 : ByteArray) (rest : List ByteArray) (hr : rows = r0 :: rest) (hl : rows.length ≤ 4294967296) (hb : ∀ r ∈ rows, r.size ≤ 4294967296) : ∀ (d i : Nat), i + d = rows.length →
    Ev (fun k => impl_IsTray.l0 k s rows rows rows.length i) (decide ((∀ r ∈ rows.drop i, r.size = r0.size ∧ ∀ c ∈ bytesOf r, isCellC c = true) ∧ ∀ m : Int, 97 ≤ m → m ≤ 102 → (bytesOf s).count m ≤ 1)) := by
  intro d
  induction d with
  | zero =>
    intro i hi
    have hd : rows.drop i = [] := by rw [List.drop_eq_nil_iff]; omega
    have h1 := IsTray_l1 s 6 97 (by omega) (by omega)
    have he : ((∀ r ∈ rows.drop i, r.size = r0.size ∧ ∀ c ∈ bytesOf r, isCellC c = true) ∧ ∀ m : Int, 97 ≤ m → m ≤ 102 → (bytesOf s).count m ≤ 1) ↔ (∀ m : Int, (97 : Nat) ≤ m → m ≤ 102 → (bytesOf s).count m ≤ 1) := by
      rw [hd]; simp
    simp only [he]
    exact Ev.step (fun k => by rw [impl_IsTray.l0, if_neg (by omega)]; rfl) h1
  | succ d ih =>
    intro i hi
    have hih := ih (i + 1) (by omega)
    have hlt : i < rows.length := by omega
    have hd : rows.drop i = rows[i] :: rows.drop (i + 1) := List.drop_eq_getElem_cons hlt
    have hri : rdOf ByteArray.empty rows (i : Int) = rows[i] := by
      unfold rdOf; rw [Int.toNat_natCast, List.getD_eq_getElem?_getD, List.getElem?_eq_getElem hlt]; rfl
    have hr0 : rdOf ByteArray.empty rows 0 = r0 := by unfold rdOf; rw [hr]; rfl
    have hsz : rows[i].size ≤ 4294967296 := hb _ (List.getElem_mem ..)
    have hstep : ∀ k, impl_IsTray.l0 (k + 1) s rows rows rows.length i = (if ((rows[i]).size : Int) = (r0.size : Int) then ((strings_Trim.f (rows[i]) (⟨#[35, 46, 111, 97, 98, 99, 100, 101, 102]⟩ : ByteArray)).bind fun t141 => (if t141.toList = ([] : List UInt8) then (impl_IsTray.l0 k s rows rows rows.length (i + 1 : Nat)) else (some false))) else (some false)) := fun k => by
      rw [impl_IsTray.l0, if_pos (by omega), if_pos (by omega), if_pos (by omega), if_pos (by omega), hri, hr0, w64 (by omega) (by omega)]
      rfl
    refine Ev.step hstep ?_
    by_cases hz : rows[i].size = r0.size
    · simp only [if_pos (show (rows[i].size : Int) = r0.size by omega)]
      obtain ⟨t, ht, hiff⟩ := trim_nil rows[i] (⟨#[35, 46, 111, 97, 98, 99, 100, 101, 102]⟩ : ByteArray) ByteArray.empty (by omega) (by decide) (by decide)
      rw [ht]
      simp only [Option.bind_some]
      by_cases hc : ∀ c ∈ bytesOf rows[i], isCellC c = true
      · simp only [if_pos (hiff.2 fun c hcm => (cellSet c).2 (hc c hcm))]
        have he : ((∀ r ∈ rows.drop i, r.size = r0.size ∧ ∀ c ∈ bytesOf r, isCellC c = true) ∧ ∀ m : Int, 97 ≤ m → m ≤ 102 → (bytesOf s).count m ≤ 1) ↔ ((∀ r ∈ rows.drop (i + 1), r.size = r0.size ∧ ∀ c ∈ bytesOf r, isCellC c = true) ∧ ∀ m : Int, 97 ≤ m → m ≤ 102 → (bytesOf s).count m ≤ 1) := by
          rw [hd]; simp only [List.mem_cons, forall_eq_or_imp]
          constructor
          · rintro ⟨⟨_, h2⟩, h3⟩; exact ⟨h2, h3⟩
          · rintro ⟨h2, h3⟩; exact ⟨⟨⟨hz, hc⟩, h2⟩, h3⟩
        simp only [he]
        exact hih
      · simp only [if_neg (fun e => hc fun c hcm => (cellSet c).1 (hiff.1 e c hcm))]
        rw [decide_eq_false]
        · exact Ev.now _
        · rintro ⟨h1, _⟩
          exact hc (h1 rows[i] (by rw [hd]; exact List.mem_cons_self ..)).2
    · simp only [if_neg (show ¬ (rows[i].size : Int) = r0.size by omega)]
      rw [decide_eq_false]
      · exact Ev.now _
      · rintro ⟨h1, _⟩
        exact hz (h1 rows[i] (by rw [hd]; exact List.mem_cons_self ..)).1
theorem impl_IsTray_ev (s : ByteArray) (hs : s.size < 4294967281) : Ev (fun k => impl_IsTray.f k s) (tyGrid (bytesOf s)).isSome := by
  have hsp : strings_Split.f s (⟨#[47]⟩ : ByteArray) = some (rowsB 47 s) := if_pos ⟨hs, rfl⟩
  have hmap : (rowsB 47 s).map bytesOf = rowsI 47 (bytesOf s) := rowsB_bytes 47 s
  cases hr : rowsI 47 (bytesOf s) with
  | nil => exact absurd hr (rowsI_ne _ _)
  | cons q qs =>
    have hlen := rowsI_length 47 (bytesOf s) q qs hr
    rw [bytesOf_length] at hlen
    rw [hr] at hmap
    cases hrb : rowsB 47 s with
    | nil => rw [hrb] at hmap; cases hmap
    | cons r0 rest =>
      rw [hrb, List.map_cons, List.cons.injEq] at hmap
      obtain ⟨hq, hqs⟩ := hmap
      have hq0 : q.length = r0.size := by rw [← hq, bytesOf_length]
      have hql : qs.length = rest.length := by rw [← hqs, List.length_map]
      have hrow : ∀ r ∈ r0 :: rest, r.size ≤ 4294967296 := by
        intro r hm
        rcases List.mem_cons.1 hm with rfl | hm
        · omega
        · have h1 : bytesOf r ∈ qs := by rw [← hqs]; exact List.mem_map.2 ⟨r, hm, rfl⟩
          have h2 := (List.sublist_flatten_of_mem h1).length_le
          rw [bytesOf_length] at h2; omega
      have hiff : (tyGrid (bytesOf s)).isSome = decide (((1 ≤ (r0.size : Int) ∧ (r0.size : Int) ≤ 7) ∧ (1 ≤ ((r0 :: rest).length : Int) ∧ ((r0 :: rest).length : Int) ≤ 7) ∧ (r0.size : Int) * ((r0 :: rest).length : Int) ≤ 36) ∧
          (∀ r ∈ (r0 :: rest).drop 0, r.size = r0.size ∧ ∀ c ∈ bytesOf r, isCellC c = true) ∧ ∀ m : Int, 97 ≤ m → m ≤ 102 → (bytesOf s).count m ≤ 1) := by
        rw [Bool.eq_iff_iff, tyGrid_iff, decide_eq_true_iff]
        unfold rowsTray
        rw [hr]
        simp only [List.headD_cons, List.length_cons, List.drop_zero, hq0, hql]
        have hg : rowsGood r0.size (q :: qs) ↔ (∀ r ∈ r0 :: rest, r.size = r0.size ∧ ∀ c ∈ bytesOf r, isCellC c = true) := by
          unfold rowsGood
          have e : q :: qs = (r0 :: rest).map bytesOf := by rw [List.map_cons, hq, hqs]
          rw [e]
          constructor
          · intro h r hm
            have := h (bytesOf r) (List.mem_map.2 ⟨r, hm, rfl⟩)
            rwa [bytesOf_length] at this
          · intro h z hz
            obtain ⟨r, hm, rfl⟩ := List.mem_map.1 hz
            have := h r hm
            rwa [bytesOf_length]
        rw [hg]
        have hmul : (r0.size : Int) * ((rest.length + 1 : Nat) : Int) ≤ 36 ↔ r0.size * (rest.length + 1) ≤ 36 := by
          rw [← Int.natCast_mul]; omega
        rw [hmul]
        constructor
        · rintro ⟨h1, h2, h3, h4, h5⟩; exact ⟨⟨by omega, by omega, h3⟩, h4, h5⟩
        · rintro ⟨⟨h1, h2, h3⟩, h4, h5⟩; exact ⟨by omega, by omega, h3, h4, h5⟩
      rw [hiff]
      unfold impl_IsTray.f
      rw [hsp, hrb]
      simp only [Option.bind_some]
      have h00 : rdOf ByteArray.empty (r0 :: rest) 0 = r0 := rfl
      have hln : (r0 :: rest).length ≤ 4294967296 := by simp only [List.length_cons]; omega
      simp only [if_pos (show (0 : Int) < ((r0 :: rest).length : Int) by simp only [List.length_cons]; omega), h00, impl_isSize_eq (r0.size : Int) ((r0 :: rest).length : Int) (by omega) (by omega), Option.bind_some]
      by_cases hsize : (1 ≤ (r0.size : Int) ∧ (r0.size : Int) ≤ 7) ∧ (1 ≤ ((r0 :: rest).length : Int) ∧ ((r0 :: rest).length : Int) ≤ 7) ∧ (r0.size : Int) * ((r0 :: rest).length : Int) ≤ 36
      · simp only [decide_eq_true hsize, if_true]
        have h0 := IsTray_l0 s (r0 :: rest) r0 rest rfl hln hrow (r0 :: rest).length 0 (by omega)
        simp only [hsize, true_and]
        exact h0
      · simp only [decide_eq_false hsize]
        rw [decide_eq_false (fun e => hsize e.1)]
        exact Ev.now _
end Go.Proofs.YtdffgeoegdkiaaaGreatDoor.F

namespace Go.Proofs.YtdffgeoegdkiaaaGreatDoor.F
open Go.Proofs.YtdffgeoegdkiaaaGreatDoor
open Go.RowKit Go.Proofs.YtdffgeoegdkiaaaGreatDoorW.PrintWords Go.Proofs.YtdffgeoegdkiaaaGreatDoorW.PrintLast Go.Proofs.YtdffgeoegdkiaaaGreatDoorW.PrintMore
attribute [local go_sem] max2_int min2_int max_two min_two max_three min_three max_four min_four
def impl_read.f (a0 : ByteArray) : Option (Int × Int × List Int) := (strings_Split.f a0 (⟨#[47]⟩ : ByteArray)).bind fun t102 => (if 0 < (t102.length : Int) then ((strings_Join.f t102 (⟨#[]⟩ : ByteArray)).bind fun t106 => ((conv_bytes.f t106).bind fun t107 => (some (((rdOf ByteArray.empty t102 0).size : Int), (t102.length : Int), t107)))) else (none))
def impl_read.T2 : Bool × List (List Nat × List Nat) := (true, [([], []), ([0], [0]), ([1], [1]), ([2], [2]), ([], []), ([4], [4]), ([], []), ([6], [6]), ([7], [7]), ([3, 5, 8], [3, 5, 8]), ([9, 7, 0, 1, 2, 3, 4, 5, 6, 7, 8, 9], [9])])
def impl_read.B2 : List Nat := [0, 1, 3, 7, 0, 16, 0, 64, 192, 511, 1023]
theorem impl_read.tab2 : rtab .any (opsOf Tryz.f89 2) = impl_read.T2 := by kernel_rfl
theorem impl_read.bits2 : waitsOk impl_read.T2.2 impl_read.B2 = true := by kernel_rfl
set_option maxHeartbeats 8000000 in
set_option maxRecDepth 100000 in
theorem impl_read.calls (a0 : ByteArray) (r1 : Int) (r2 : Int) (r3 : List Int) (w : World) (h : impl_read.f a0 = some (r1, r2, r3)) :
  Calls Tryz.prog 89 #[.string a0] w fun e w' => ∃ v2_ : Value, e = .returned (.agg #[.int .i64 r1, .int .i64 r2, v2_]) ∧ Kd.V (Kd.int .u8) 5 w' w.heap.size (fun k_ => (w.heap.size ≤ k_)) v2_ r3 ∧ Below w.heap.size w w' := by
 have hu93 := Tryz.underlying93
 have HB := am (Below.refl w.heap.size w)
 have H : ((strings_Split.f a0 (⟨#[47]⟩ : ByteArray)).bind fun t102 => (if 0 < (t102.length : Int) then ((strings_Join.f t102 (⟨#[]⟩ : ByteArray)).bind fun t106 => ((conv_bytes.f t106).bind fun t107 => (some (((rdOf ByteArray.empty t102 0).size : Int), (t102.length : Int), t107)))) else (none))) = some (r1, r2, r3) := h
 clear h
 obtain ⟨t102, A20, H⟩ := Option.bind_eq_some_iff.mp H
 have A2 := am A20
 clear A20
 by_cases c3 : 0 < (t102.length : Int)
 ·rw [if_pos c3] at H
  have c3b0 := decide_eq_true c3
  have c3b1 : decide (0 < t102.length) = true := decide_eq_true (by omega)
  clear c3
  obtain ⟨t106, A40, H⟩ := Option.bind_eq_some_iff.mp H
  have A4 := am A40
  clear A40
  obtain ⟨t107, A50, H⟩ := Option.bind_eq_some_iff.mp H
  have A5 := am A50
  clear A50
  simp only [Option.some.injEq, Prod.mk.injEq] at H
  obtain ⟨rfl, rfl, rfl⟩ := H
  go_enter Tryz.func89, Tryz.ntmps89
  try go_wp2_with (first | ((with_reducible refine gate_dst (N := 2) rfl ?_); refine box_event ?hg (N := 2) ?hd (cs := #[.int .i64 0, .int .i64 0, .slice none 0 0]) (t := 93) ?hr ?_; (case hd => rfl); (case hg => rfl); (case hr => exact aq16); intro gb101 hg w6 hbox hb; have n0_ := am (below_step aq1 hb); have n1_ := am (hbox); have n2_ := am ((by rw [hg]; exact (below_size aq1) : w.heap.size ≤ gb101)); have n3_ := am ((by rw [hg]; exact (below_size aq1) : w.heap.size ≤ gb101)); clear HB; have HB := n0_; have BK101 := n1_; have GW101 := n2_; have GE101 := n3_; clear n0_ n1_ n2_ n3_; clear hb hbox hg) | ((with_reducible refine gate_callee (f := 101) rfl ?_); refine goesL_ (some 5) rfl rfl Tryz.func101 (by kernel_rfl) rfl #[.string a0, .string (⟨#[47]⟩ : ByteArray)] rfl aq5 ?_; (with_reducible refine (strings_Split.calls a0 (⟨#[47]⟩ : ByteArray) t102 _ A2.out).mono ?_); rintro e w7 ⟨v103, rfl, ho0, hb⟩; refine ⟨_, rfl, ?_⟩; have n0_ := am (Kd.R_lower (Kd.R_newM (M := fun k_ => (w.heap.size ≤ k_)) ho0 (below_size aq0) (fun k_ h_ => h_)) (below_size aq0)); have n1_ := am (blk_below (g := gb101) (o := .cells #[.int .i64 0, .int .i64 0, .slice none 0 0] 93 (0, 0)) aq2 hb); have n2_ := am (below_step aq0 hb); clear BK101; clear HB; have HO104 := n0_; have BK101 := n1_; have HB := n2_; clear n0_ n1_ n2_; (try clear hb); (try clear hb2); (try clear hk); (try clear hi); (try clear ho0)))
  have n0_ := am (Kd.R_drew HO104.out)
  have n1_ := am (blk_drew BK101.out)
  have n2_ := am (below_drew1 HB.out)
  clear HO104
  clear BK101
  clear HB
  have HO104 := n0_
  have BK101 := n1_
  have HB := n2_
  clear n0_ n1_ n2_
  obtain ⟨Ao9, co9, eo9⟩ := Kd.R_slice HO104.out
  (first | subst eo9 | (injection eo9 with f1_ f2_ f3_; have f4_ := f1_.symm; have f5_ := f3_.symm; clear f1_ f2_ f3_; subst f4_; subst f5_))
  have p105 : 0 ≤ (0 : Int) := (by omega)
  have q105 : 0 < (t102.length : Int) := of_decide_eq_true aq4
  obtain ⟨ad105, e105, hx105_0⟩ := Kd.at_string (Kd.R_reads' HO104.out).2.2 0 p105 q105
  cases e105
  have qi105 : (0 < t102.length) = True := eq_true (by omega)
  (try rw [show ((0 : Int)).toNat = 0 from rfl] at hx105_0)
  (try rw [Addr.add_zero'] at hx105_0)
  replace p105 := eq_true p105
  replace q105 := eq_true q105
  refine start_ (n := 11) (S := fun w' => w'.cell? ad105 = some (.string (rdOf ByteArray.empty t102 0))) (ds := []) #[false, false, false, false, false, false, false, false, false, false, false] (by kernel_rfl) rfl rfl (hx105_0) (fun hHeld => ?_); refine with_tabW impl_read.tab2 impl_read.bits2 (fun HT_ HW_ => ?_)
  generalize w7.drew = w8 at HO104 BK101 HB hx105_0 hHeld ⊢
  refine pure_ (i := 0) (N := some 6) (v := ?_) (a' := ?_) (bm 11 1) rfl rfl (any_of HT_.out (by kernel_rfl)) (fun _ _ _ h => h) (Or.inl ⟨by rfl, ?_⟩) ?_ ?_
  rotate_left
  ·intro w'
   go_simp
   with_reducible rfl
  rotate_left
  ·simp only [Act.put, ac_]
   rfl
  refine pure_ (i := 1) (N := some 7) (v := ?_) (a' := ?_) (bm 11 3) rfl rfl (any_of HT_.out (by kernel_rfl)) (fun _ _ _ h => h) (Or.inl ⟨by rfl, ?_⟩) ?_ ?_
  rotate_left
  ·intro w'
   go_simp
   with_reducible rfl
  rotate_left
  ·simp only [Act.put, ac_]
   rfl
  refine pure_ (i := 4) (N := some 10) (v := ?_) (a' := ?_) (bm 11 19) rfl rfl (any_of HT_.out (by kernel_rfl)) (fun _ _ _ h => h) (Or.inl ⟨by rfl, ?_⟩) ?_ ?_
  rotate_left
  ·intro w'
   go_simp
   with_reducible rfl
  rotate_left
  ·simp only [Act.put, ac_]
   rfl
  refine pure_ (i := 5) (N := some 11) (v := ?_) (a' := ?_) (bm 11 51) rfl rfl (any_of HT_.out (by kernel_rfl)) (fun _ _ _ h => h) (Or.inl ⟨by rfl, ?_⟩) ?_ ?_
  rotate_left
  ·intro w'
   go_simp
   with_reducible rfl
  rotate_left
  ·simp only [Act.put, ac_]
   rfl
  refine pure_ (i := 6) (N := some 12) (v := ?_) (a' := ?_) (bm 11 115) rfl rfl (any_of HT_.out (by kernel_rfl)) (fun _ _ _ h => h) (Or.inl ⟨by rfl, ?_⟩) ?_ ?_
  rotate_left
  ·intro w'
   go_simp
   with_reducible rfl
  rotate_left
  ·simp only [Act.put, ac_]
   rfl
  refine take_ (i := 2) (N := some 8) (v := ?_) (a' := ?_) (bm 11 119) rfl rfl (take_ofW HT_.out HW_.out (by kernel_rfl)) (fun _ _ _ h => h) (Or.inl ⟨by rfl, ?_⟩) hHeld ?_ ?_
  rotate_left
  ·intro w' s0
   go_simp
   with_reducible rfl
  rotate_left
  ·simp only [Act.put, ac_]
   rfl
  refine pure_ (i := 3) (N := some 9) (v := ?_) (a' := ?_) (bm 11 127) rfl rfl (any_of HT_.out (by kernel_rfl)) (fun _ _ _ h => h) (Or.inl ⟨by rfl, ?_⟩) ?_ ?_
  rotate_left
  ·intro w'
   go_simp
   with_reducible rfl
  rotate_left
  ·simp only [Act.put, ac_]
   rfl
  refine one_ (i := 7) (N := some 13) (bm 11 255) rfl rfl (one_of HT_.out (by kernel_rfl)) (by decide) (fun K hK => ?_)
  refine goes_ Tryz.func128 (by kernel_rfl) rfl #[.slice (some ad105) t102.length co9, .string (⟨#[]⟩ : ByteArray)] (by rfl) rfl rfl aq5 ?_
  with_reducible refine (strings_Join.calls _ _ t102 (⟨#[]⟩ : ByteArray) t106 _ ?side1 ?side2 A4.out).mono ?_
  (case side1 => exact aq51)
  (case side2 => exact (Kd.R_reads' HO104.out).2.1)
  rintro e w10 ⟨rfl, hb⟩
  have HS0_ := (hb.cell (World.block_lt_of_cell? _ _ (hHeld))).trans (hHeld)
  refine ⟨_, rfl, ?_⟩
  have n0_ := am (Kd.R_below aq30 hb)
  have n1_ := am (blk_below (g := gb101) (o := .cells #[.int .i64 0, .int .i64 0, .slice none 0 0] 93 (0, 0)) aq2 hb)
  have n2_ := am (below_step aq0 hb)
  clear HO104
  clear BK101
  clear HB
  have HO104 := n0_
  have BK101 := n1_
  have HB := n2_
  clear n0_ n1_ n2_
  (try clear hb)
  (try clear hb2)
  (try clear hk)
  (try clear hi)
  refine hK.out _ _ (HS0_) (fun hHeld => ?_)
  clear hK K
  refine norm_ (a' := ?_) ?_ ?_
  rotate_left
  ·show Act.put _ (some 13) _ = _
   simp only [Act.put, ac_]
   rfl
  refine one_ (i := 8) (N := some 14) (bm 11 511) rfl rfl (one_of HT_.out (by kernel_rfl)) (by decide) (fun K hK => ?_)
  refine conv_step (by rfl) (N := 14) rfl 9 60 5 _ rfl t106 rfl Tryz.underlying9 Tryz.underlying60 Tryz.underlying5 t107 A5.out ?_
  intro v108 w11 ho0 hb
  have HS0_ := (hb.cell (World.block_lt_of_cell? _ _ (hHeld))).trans (hHeld)
  have n0_ := am (Kd.R_below aq30 hb)
  have n1_ := am (Kd.V_lower (Kd.V_mono (ok' := fun k_ => (w.heap.size ≤ k_) ∧ some k_ ≠ (.slice (some ad105) t102.length co9 : Value).ownBlock ∧ k_ ≠ gb101) ho0 (fun k_ hk_ => ⟨(Nat.le_trans (below_size aq0) hk_), (Kd.fresh' (Kd.R_lt aq30) k_ hk_), (Kd.freshB (g := gb101) (o := .cells #[.int .i64 0, .int .i64 0, .slice none 0 0] 93 (0, 0)) aq2 k_ hk_)⟩)) (below_size aq0))
  have n2_ := am (blk_below (g := gb101) (o := .cells #[.int .i64 0, .int .i64 0, .slice none 0 0] 93 (0, 0)) aq2 hb)
  have n3_ := am (below_step aq0 hb)
  clear HO104
  clear BK101
  clear HB
  have HO104 := n0_
  have HO109 := n1_
  have BK101 := n2_
  have HB := n3_
  clear n0_ n1_ n2_ n3_
  (try clear hb)
  (try clear hb2)
  (try clear hk)
  (try clear hi)
  (try clear ho0)
  obtain ⟨Ao12, co12, eo12⟩ := Kd.V_slice HO109.out
  (first | subst eo12 | (injection eo12 with f1_ f2_ f3_; have f4_ := f1_.symm; have f5_ := f3_.symm; clear f1_ f2_ f3_; subst f4_; subst f5_))
  refine hK.out _ _ (HS0_) (fun hHeld => ?_)
  clear hK K
  refine norm_ (a' := ?_) ?_ ?_
  rotate_left
  ·show Act.put _ (some 14) _ = _
   simp only [Act.put, ac_]
   rfl
  refine pure_ (i := 9) (N := some 15) (v := ?_) (a' := ?_) (bm 11 1023) rfl rfl (any_of HT_.out (by kernel_rfl)) (fun _ _ _ h => h) (Or.inl ⟨by rfl, ?_⟩) ?_ ?_
  rotate_left
  ·intro w'
   go_simp
   with_reducible rfl
  rotate_left
  ·simp only [Act.put, ac_]
   rfl
  refine one_ (i := 10) (N := none) (bm 11 2047) rfl rfl (one_of HT_.out (by kernel_rfl)) (by decide) (fun K hK => ?_)
  have hs13 : w11.cell? ⟨gb101, 0, none⟩ = some (.int .i64 0) := (blk_cell BK101.out 0).trans rfl
  have hfs13 := blk_frozen BK101.out 0
  have hs14 : w11.cell? ⟨gb101, 1, none⟩ = some (.int .i64 0) := (blk_cell BK101.out 1).trans rfl
  have hfs14 := blk_frozen BK101.out 1
  have hs15 : w11.cell? ⟨gb101, 2, none⟩ = some (.slice none 0 0) := (blk_cell BK101.out 2).trans rfl
  have hfs15 := blk_frozen BK101.out 2
  refine skip_ (w1 := ?_) (by rfl) rfl ?_ ?_
  rotate_left
  ·go_simp
   rfl
  refine hK.out _ _ (((cell_far (p := ⟨gb101, _, none⟩) aq42 _).trans (((cell_far (p := ⟨gb101, _, none⟩) aq42 _).trans (((cell_far (p := ⟨gb101, _, none⟩) aq42 _).trans (hHeld))))))) (fun hHeld => ?_)
  clear hK K
  refine done_ (done_of HT_.out (by kernel_rfl)) ?_
  try go_wp2
  refine bodyPost_ret (results_cell_row rfl _ _ gb101 93 #[.int .i64 ((rdOf ByteArray.empty t102 0).size : Int), .int .i64 (t102.length : Int), .slice Ao12 t107.length co12] (0, 0) _ rfl (by (with_reducible repeat (first | refine blk_drewN ?_ _ | refine blk_drew ?_ | refine blk_alloc ?_ _)); refine blk_put (cs := #[.int .i64 ((rdOf ByteArray.empty t102 0).size : Int), .int .i64 (t102.length : Int), .slice none 0 0]) ?_ 2 _ rfl; (with_reducible repeat (first | refine blk_drewN ?_ _ | refine blk_drew ?_ | refine blk_alloc ?_ _)); refine blk_put (cs := #[.int .i64 ((rdOf ByteArray.empty t102 0).size : Int), .int .i64 0, .slice none 0 0]) ?_ 1 _ rfl; (with_reducible repeat (first | refine blk_drewN ?_ _ | refine blk_drew ?_ | refine blk_alloc ?_ _)); refine blk_put (cs := #[.int .i64 0, .int .i64 0, .slice none 0 0]) ?_ 0 _ rfl; (with_reducible repeat (first | refine blk_drewN ?_ _ | refine blk_drew ?_ | refine blk_alloc ?_ _)); exact BK101.out) Tryz.underlying93 rfl (by kernel_rfl)) rfl ?_
  exact ⟨_, aq8, by (with_reducible repeat (first | apply Kd.V_alloc | apply Kd.V_drewN | apply Kd.V_drew)); exact Kd.V_mono (Kd.V_far (p := ⟨gb101, 2, none⟩) (Kd.V_far (p := ⟨gb101, 1, none⟩) (Kd.V_far (p := ⟨gb101, 0, none⟩) (Kd.V_mono HO109.out (fun k_ hk => (⟨hk, hk.2.2⟩ : _ ∧ k_ ≠ gb101))) (fun _ hk => hk.2) (.int .i64 ((rdOf ByteArray.empty t102 0).size : Int))) (fun _ hk => hk.2) (.int .i64 (t102.length : Int))) (fun _ hk => hk.2) (.slice Ao12 t107.length co12)) (fun _ hk => hk.1.1), aq0⟩
 ·rw [if_neg c3] at H
  exact absurd H (by simp)
end Go.Proofs.YtdffgeoegdkiaaaGreatDoor.F

namespace Go.Proofs.YtdffgeoegdkiaaaGreatDoor.F
open Go.RowKit Go.Proofs.YtdffgeoegdkiaaaGreatDoor Go.Proofs.YtdffgeoegdkiaaaGreatDoorW.PrintWords
theorem tyGrid_some {l : List Int} {w h : Nat} {cs : List Int} (hg : tyGrid l = some (w, h, cs)) :
    (1 ≤ w ∧ w ≤ 7) ∧ (1 ≤ h ∧ h ≤ 7) ∧ cs.length = w * h ∧ w * h ≤ 36 ∧ l.length ≤ 42 ∧ cs = (rowsI 47 l).flatten ∧ w = ((rowsI 47 l).headD []).length ∧ h = (rowsI 47 l).length := by
  have hs : rowsTray l := (tyGrid_iff l).1 (by rw [hg]; rfl)
  unfold tyGrid at hg
  split at hg
  · cases hg
  rename_i h42
  cases hr : rowsI 47 l with
  | nil => exact absurd hr (rowsI_ne _ _)
  | cons r rs =>
    rw [tyGo_start l r rs hr] at hg
    unfold rowsTray at hs
    rw [hr] at hs
    by_cases hc : 0 < r.length ∧ rowsGood r.length (r :: rs)
    · rw [if_pos hc] at hg
      simp only at hg
      split at hg
      · rename_i hd
        injection hg with hg
        simp only [Prod.mk.injEq] at hg
        obtain ⟨rfl, rfl, rfl⟩ := hg
        have hf := rowsGood_flatten hc.2
        simp only [List.length_cons] at hf
        simp only [List.headD_cons, List.length_cons] at hs ⊢
        refine ⟨hs.1, hs.2.1, hf, hs.2.2.1, by omega, ?_⟩
        simp
      · cases hg
    · rw [if_neg hc] at hg
      cases hg
theorem join_nil : ∀ xs : List (List UInt8), Lib.join xs [] = xs.flatten
  | [] => rfl
  | [a] => by simp [Lib.join, List.intercalate]
  | a :: b :: l => by
    have ih := join_nil (b :: l)
    unfold Lib.join List.intercalate at ih ⊢
    rw [List.intersperse, List.flatten_cons, List.flatten_cons, ih]
    · simp
    all_goals simp
theorem impl_read_eq (s : ByteArray) {w h : Nat} {cs : List Int} (hg : tyGrid (bytesOf s) = some (w, h, cs)) : impl_read.f s = some ((w : Int), (h : Int), cs) := by
  obtain ⟨hw, hh, hl, h36, h42, hcs, hwr, hhr⟩ := tyGrid_some hg
  rw [bytesOf_length] at h42
  have hsp : strings_Split.f s (⟨#[47]⟩ : ByteArray) = some (rowsB 47 s) := if_pos ⟨by omega, rfl⟩
  have hmap : (rowsB 47 s).map bytesOf = rowsI 47 (bytesOf s) := rowsB_bytes 47 s
  have hjl : (Lib.join ((rowsB 47 s).map (·.data.toList)) []) = ((rowsB 47 s).map (·.data.toList)).flatten := join_nil _
  have hbj : bytesOf (joinB (rowsB 47 s) ⟨#[]⟩) = cs := by
    unfold joinB
    show ((Lib.join ((rowsB 47 s).map (·.data.toList)) []).map fun b : UInt8 => (b.toNat : Int)) = cs
    rw [hjl, List.map_flatten, List.map_map, hcs, ← hmap]
    rfl
  have hjs : (joinB (rowsB 47 s) ⟨#[]⟩).size = w * h := by rw [← bytesOf_length, hbj, hl]
  have hrl : (rowsB 47 s).length = h := by rw [hhr, ← hmap, List.length_map]
  have hjoin : strings_Join.f (rowsB 47 s) (⟨#[]⟩ : ByteArray) = some (joinB (rowsB 47 s) ⟨#[]⟩) := by
    refine if_pos ⟨by omega, ?_⟩
    have : (Lib.join ((rowsB 47 s).map (·.data.toList)) ([] : List UInt8)).length = w * h := by
      rw [← hjs]; rfl
    show (Lib.join ((rowsB 47 s).map (·.data.toList)) ([] : List UInt8)).length ≤ _
    omega
  have hr0 : ((rdOf ByteArray.empty (rowsB 47 s) 0).size : Int) = w := by
    rw [hwr, ← hmap]
    cases hrb : rowsB 47 s with
    | nil => rw [hrb] at hrl; simp at hrl; omega
    | cons a t =>
      show ((a.size : Nat) : Int) = _
      simp [bytesOf_length]
  rw [impl_read.f, hsp, Option.bind_some, if_pos (by omega), hjoin, Option.bind_some, conv_bytes.f, if_pos (by omega), Option.bind_some, hr0, hrl, hbj]
end Go.Proofs.YtdffgeoegdkiaaaGreatDoor.F

namespace Go.Proofs.YtdffgeoegdkiaaaGreatDoor
open Go.RowKit Go.Proofs.YtdffgeoegdkiaaaGreatDoorW.PrintWords
def rowsOf (w h : Nat) (cs : List Int) : List (List Int) := (List.range h).map fun k => (cs.drop (k * w)).take w
def joinI : List (List Int) → List Int
  | [] => []
  | [r] => r
  | r :: q :: rs => r ++ 47 :: joinI (q :: rs)
theorem join_rowsI (l : List Int) : joinI (rowsI 47 l) = l := by
  induction l with
  | nil => rfl
  | cons c l ih =>
    rw [rowsI]
    cases hr : rowsI 47 l with
    | nil => exact absurd hr (rowsI_ne _ _)
    | cons r rs =>
      rw [hr] at ih
      by_cases hc : c = 47
      · rw [if_pos hc, joinI, ih, hc]; rfl
      · rw [if_neg hc]
        cases rs with
        | nil => show c :: r = c :: l; rw [show r = l from ih]
        | cons q rs => show (c :: r) ++ 47 :: joinI (q :: rs) = c :: l; rw [List.cons_append, show r ++ 47 :: joinI (q :: rs) = l from ih]
theorem rowsOf_succ (w h : Nat) (cs : List Int) : rowsOf w (h + 1) cs = cs.take w :: rowsOf w h (cs.drop w) := by
  unfold rowsOf
  rw [List.range_succ_eq_map, List.map_cons, List.map_map]
  congr 1
  · simp
  · apply List.map_congr_left
    intro k _
    simp [Function.comp, List.drop_drop, Nat.succ_mul, Nat.add_comm]
theorem flatten_rowsOf {w : Nat} : ∀ (rs : List (List Int)), (∀ r ∈ rs, r.length = w) → rowsOf w rs.length rs.flatten = rs
  | [], _ => by simp [rowsOf]
  | r :: rs, h => by
    have hr := h r (by simp)
    rw [List.length_cons, rowsOf_succ, List.flatten_cons, List.take_left' hr, List.drop_left' hr, flatten_rowsOf rs (fun x hx => h x (by simp [hx]))]
theorem rowsOf_mem {w h : Nat} {cs : List Int} (hl : cs.length = w * h) {r : List Int} (hr : r ∈ rowsOf w h cs) : r.length = w ∧ ∀ c ∈ r, c ∈ cs := by
  unfold rowsOf at hr
  obtain ⟨k, hk, rfl⟩ := List.mem_map.1 hr
  have hk' := List.mem_range.1 hk
  have : (k + 1) * w ≤ w * h := by rw [Nat.mul_comm w h]; exact Nat.mul_le_mul_right w hk'
  rw [Nat.succ_mul] at this
  exact ⟨by rw [List.length_take, List.length_drop]; omega, fun c hc => List.mem_of_mem_drop (List.mem_of_mem_take hc)⟩
structure VG (w h : Nat) (cs : List Int) : Prop where
  w1 : 1 ≤ w
  w7 : w ≤ 7
  h1 : 1 ≤ h
  h7 : h ≤ 7
  len : cs.length = w * h
  small : w * h ≤ 36
  cell : ∀ c ∈ cs, isCellC c = true
  names : namesOk cs
def textI (w h : Nat) (cs : List Int) : List Int := joinI (rowsOf w h cs)
theorem tyGrid_parts {l : List Int} {w h : Nat} {cs : List Int} (hg : tyGrid l = some (w, h, cs)) : cs = (rowsI 47 l).flatten ∧ w = ((rowsI 47 l).headD []).length ∧ h = (rowsI 47 l).length := by
  unfold tyGrid at hg
  split at hg
  · cases hg
  cases hr : rowsI 47 l with
  | nil => exact absurd hr (rowsI_ne _ _)
  | cons r rs =>
    rw [tyGo_start l r rs hr] at hg
    by_cases hc : 0 < r.length ∧ rowsGood r.length (r :: rs)
    · rw [if_pos hc] at hg
      simp only at hg
      split at hg
      · injection hg with hg
        simp only [Prod.mk.injEq] at hg
        obtain ⟨rfl, rfl, rfl⟩ := hg
        simp
      · cases hg
    · rw [if_neg hc] at hg
      cases hg
theorem tyGrid_VG {l : List Int} {w h : Nat} {cs : List Int} (hg : tyGrid l = some (w, h, cs)) : VG w h cs ∧ textI w h cs = l := by
  have hs : rowsTray l := (tyGrid_iff l).1 (by rw [hg]; rfl)
  obtain ⟨e1, e2, e3⟩ := tyGrid_parts hg
  unfold rowsTray at hs
  rw [← e2, ← e3] at hs
  obtain ⟨⟨a1, a2⟩, ⟨b1, b2⟩, c1, d1, f1⟩ := hs
  have hro : rowsOf w h cs = rowsI 47 l := by rw [e1, e3]; exact flatten_rowsOf _ (fun r hr => (d1 r hr).1)
  refine ⟨⟨a1, a2, b1, b2, ?_, c1, ?_, ?_⟩, ?_⟩
  · rw [e1, rowsGood_flatten d1, e3]
  · intro c hc
    rw [e1] at hc
    obtain ⟨r, hr, hcr⟩ := List.mem_flatten.1 hc
    exact (d1 r hr).2 c hcr
  · rw [namesOk_iff]
    intro n h1 h2
    rw [e1, ← rowsI_count 47 n (by omega)]
    exact f1 n h1 h2
  · unfold textI; rw [hro]; exact join_rowsI l
def at_ (w : Nat) (cs : List Int) (x y : Nat) : Int := cs.getD (y * w + x) 0
def gridOf (w h : Nat) (f : Nat → Nat → Int) : List Int := (List.range (w * h)).map fun i => f (i % w) (i / w)
theorem gridOf_length (w h : Nat) (f : Nat → Nat → Int) : (gridOf w h f).length = w * h := by simp [gridOf]
def turnL (w h : Nat) (cs : List Int) : List Int := gridOf h w fun x y => at_ w cs y (h - 1 - x)
def mirrorL (w h : Nat) (cs : List Int) : List Int := gridOf w h fun x y => at_ w cs (w - 1 - x) y
theorem turnL_length (w h : Nat) (cs : List Int) : (turnL w h cs).length = h * w := by unfold turnL; exact gridOf_length h w _
theorem mirrorL_length (w h : Nat) (cs : List Int) : (mirrorL w h cs).length = w * h := by unfold mirrorL; exact gridOf_length w h _
theorem perm_places {n : Nat} {cs : List Int} (hl : cs.length = n) (s t : Nat → Nat) (hs : ∀ i, i < n → s i < n ∧ t (s i) = i) (ht : ∀ i, i < n → t i < n ∧ s (t i) = i) : ((List.range n).map fun i => cs.getD (s i) 0).Perm cs := by
  have hnd : ((List.range n).map s).Nodup := by
    rw [List.Nodup, List.pairwise_map]
    refine List.Pairwise.imp_of_mem (fun {a b} ha hb hab e => hab ?_) List.nodup_range
    rw [← (hs a (List.mem_range.1 ha)).2, ← (hs b (List.mem_range.1 hb)).2, e]
  have h1 : ((List.range n).map s).Perm (List.range n) := by
    rw [List.perm_ext_iff_of_nodup hnd List.nodup_range]
    intro a
    rw [List.mem_map, List.mem_range]
    constructor
    · rintro ⟨i, hi, rfl⟩; exact (hs i (List.mem_range.1 hi)).1
    · intro ha; exact ⟨t a, List.mem_range.2 (ht a ha).1, (ht a ha).2⟩
  have h2 := h1.map fun i => cs.getD i 0
  rw [List.map_map] at h2
  have h3 : (List.range n).map (fun i => cs.getD i 0) = cs := by
    apply List.ext_getElem
    · simp [hl]
    · intro i a b; simp [List.getD_eq_getElem?_getD, List.getElem?_eq_getElem b]
  rw [h3] at h2
  exact h2
theorem place_lt {w h x y : Nat} (hx : x < w) (hy : y < h) : y * w + x < w * h := by
  have := Nat.mul_le_mul_right w (Nat.succ_le_of_lt hy)
  rw [Nat.succ_mul, Nat.mul_comm h w] at this
  omega
theorem place_mod {w x y : Nat} (hx : x < w) : (y * w + x) % w = x := by rw [Nat.mul_comm, Nat.mul_add_mod, Nat.mod_eq_of_lt hx]
theorem place_div {w x y : Nat} (hx : x < w) : (y * w + x) / w = y := by rw [Nat.mul_comm, Nat.mul_add_div (by omega), Nat.div_eq_of_lt hx, Nat.add_zero]
theorem place_of {w h i : Nat} (hi : i < w * h) : i % w < w ∧ i / w < h ∧ i / w * w + i % w = i := by
  have hw : 0 < w := by
    rcases Nat.eq_zero_or_pos w with h' | h'
    · rw [h'] at hi; simp at hi
    · exact h'
  exact ⟨Nat.mod_lt _ hw, Nat.div_lt_of_lt_mul hi, by rw [Nat.mul_comm]; exact Nat.div_add_mod i w⟩
theorem turnL_perm {w h : Nat} {cs : List Int} (hl : cs.length = w * h) : (turnL w h cs).Perm cs := by
  refine perm_places (by rw [hl, Nat.mul_comm]) (fun i => (h - 1 - i % h) * w + i / h) (fun j => (j % w) * h + (h - 1 - j / w)) ?_ ?_
  · intro i hi
    obtain ⟨h1, h2, h3⟩ := place_of hi
    generalize i / h = q at *
    generalize i % h = r at *
    refine ⟨by rw [Nat.mul_comm h w]; exact place_lt h2 (by omega), ?_⟩
    rw [place_mod h2, place_div h2, show h - 1 - (h - 1 - r) = r by omega]
    exact h3
  · intro j hj
    rw [Nat.mul_comm h w] at hj
    obtain ⟨h1, h2, h3⟩ := place_of hj
    generalize j / w = q at *
    generalize j % w = r at *
    refine ⟨place_lt (by omega) h1, ?_⟩
    rw [place_mod (by omega), place_div (by omega), show h - 1 - (h - 1 - q) = q by omega]
    exact h3
theorem mirrorL_perm {w h : Nat} {cs : List Int} (hl : cs.length = w * h) : (mirrorL w h cs).Perm cs := by
  have hs : ∀ i, i < w * h → (i / w * w + (w - 1 - i % w)) < w * h ∧ ((i / w * w + (w - 1 - i % w)) / w * w + (w - 1 - (i / w * w + (w - 1 - i % w)) % w)) = i := by
    intro i hi
    obtain ⟨h1, h2, h3⟩ := place_of hi
    generalize i / w = q at *
    generalize i % w = r at *
    refine ⟨place_lt (by omega) h2, ?_⟩
    rw [place_mod (by omega), place_div (by omega), show w - 1 - (w - 1 - r) = r by omega]
    exact h3
  exact perm_places hl (fun i => i / w * w + (w - 1 - i % w)) (fun i => i / w * w + (w - 1 - i % w)) hs hs
def Lg (g : (Nat × Nat × List Int)) : Prop := g.2.2.length = g.1 * g.2.1
def Tg (g : (Nat × Nat × List Int)) : (Nat × Nat × List Int) := (g.2.1, g.1, turnL g.1 g.2.1 g.2.2)
def Mg (g : (Nat × Nat × List Int)) : (Nat × Nat × List Int) := (g.1, g.2.1, mirrorL g.1 g.2.1 g.2.2)
theorem Lg.T {g : (Nat × Nat × List Int)} (h : Lg g) : Lg (Tg g) := turnL_length g.1 g.2.1 g.2.2
theorem Lg.M {g : (Nat × Nat × List Int)} (h : Lg g) : Lg (Mg g) := mirrorL_length g.1 g.2.1 g.2.2
def Vg (g : (Nat × Nat × List Int)) : Prop := VG g.1 g.2.1 g.2.2
theorem Vg.L {g : (Nat × Nat × List Int)} (h : Vg g) : Lg g := h.len
theorem names_perm {a b : List Int} (h : a.Perm b) (hn : namesOk b) : namesOk a := by
  rw [namesOk_iff] at hn ⊢
  intro n h1 h2
  rw [h.count_eq]
  exact hn n h1 h2
theorem Vg.T {g : (Nat × Nat × List Int)} (h : Vg g) : Vg (Tg g) := by
  have hp := turnL_perm h.len
  exact ⟨h.h1, h.h7, h.w1, h.w7, turnL_length g.1 g.2.1 g.2.2, by rw [Nat.mul_comm]; exact h.small, fun c hc => h.cell c (hp.mem_iff.1 hc), names_perm hp h.names⟩
theorem Vg.M {g : (Nat × Nat × List Int)} (h : Vg g) : Vg (Mg g) := by
  have hp := mirrorL_perm h.len
  exact ⟨h.w1, h.w7, h.h1, h.h7, mirrorL_length g.1 g.2.1 g.2.2, h.small, fun c hc => h.cell c (hp.mem_iff.1 hc), names_perm hp h.names⟩
def textG (g : (Nat × Nat × List Int)) : List Int := textI g.1 g.2.1 g.2.2
end Go.Proofs.YtdffgeoegdkiaaaGreatDoor

namespace Go.Proofs.YtdffgeoegdkiaaaGreatDoor
open Go.RowKit Go.Proofs.YtdffgeoegdkiaaaGreatDoorW.PrintWords Go.Proofs.YtdffgeoegdkiaaaGreatDoorW.PrintLast Go.Proofs.YtdffgeoegdkiaaaGreatDoorW.PrintMore Go.Lib Go.Shelf
attribute [local go_sem] Oper.semAt_some max2_int min2_int
def KeepTwo (B1 B2 : Nat) (W W' : World) : Prop := W'.cell? ⟨B1, 0, none⟩ = W.cell? ⟨B1, 0, none⟩ ∧ W'.cell? ⟨B2, 0, none⟩ = W.cell? ⟨B2, 0, none⟩
theorem KeepTwo.trans {B1 B2 : Nat} {A B C : World} (h : KeepTwo B1 B2 A B) (h' : KeepTwo B1 B2 B C) : KeepTwo B1 B2 A C := ⟨h'.1.trans h.1, h'.2.trans h.2⟩
theorem KeepTwo.of_below {B1 B2 n₀ : Nat} {W W' : World} (h : Below n₀ W W') (h1 : B1 < n₀) (h2 : B2 < n₀) : KeepTwo B1 B2 W W' := ⟨h.cell (p := ⟨B1, 0, none⟩) h1, h.cell (p := ⟨B2, 0, none⟩) h2⟩
theorem KeepTwo.put {B1 B2 : Nat} {w : World} (h1 : B1 < w.heap.size) (h2 : B2 < w.heap.size) (W : World) (l : Nat) (o o' : Obj) (hl : w.heap.size ≤ l) (h : W.heap[l]? = some o) (hc : o.isCells = false) (hw : o.isWalk = false) : KeepTwo B1 B2 W (W.putObj l o') :=
  .of_below (belowK_b (w := w) (Nat.le_refl _) W l o o' hl h hc hw) h1 h2
theorem info9 : (Tryz.prog.info? 9).map (fun i => (i.zero, i.size, i.bytes)) = some (some (.string ByteArray.empty), 1, 16) := by kernel_rfl
theorem info5 : (Tryz.prog.info? 5).map (fun i => (i.zero, i.size, i.bytes)) = some (some (.int .u8 0), 1, 1) := by kernel_rfl
def slices_Clone.f (l : List Int) : Option (List Int) := if 0 < l.length ∧ l.length < 65536 then some l else none
theorem slices_Clone.calls (A0 : Option Addr) (c0 : Nat) (l0 : List Int) (r : List Int) (w : World) (hr0 : Kd.C (Kd.int .u8) w A0 l0.length l0) (hc0 : l0.length ≤ c0) (h : slices_Clone.f l0 = some r) :
    Calls Tryz.prog 238 #[.slice A0 l0.length c0] w fun e w' => ∃ v_, e = .returned v_ ∧ Kd.R (Kd.int .u8) 5 w' w.heap.size (fun _ => True) v_ r ∧ Below w.heap.size w w' := by
  unfold slices_Clone.f at h
  split at h
  case isFalse => cases h
  rename_i hc
  injection h with h
  subst h
  obtain ⟨b, o, rfl, hbk, hcells⟩ := C_place hr0 hc.1
  obtain ⟨i0, hi, hz0, hz1, hz2⟩ := info_parts info5
  refine (Tryz.slices_Clone_f238 i0 (.int .u8 0) 1 1 hi hz0 hz1 hz2 rfl (by decide) (fun w => by kernel_rfl) b o l0.length c0 (l0.map (Value.int .u8)) w (by simp) (by have : maxLen = 9223372036854775807 := rfl; omega) (by omega) (fun j u hj => ?_) (fun u hu => ?_)).mono ?_
  · rw [List.getElem?_map, Option.map_eq_some_iff] at hj
    obtain ⟨x, hx, rfl⟩ := hj
    exact hcells j x hx
  · obtain ⟨x, _, rfl⟩ := List.mem_map.1 hu
    rfl
  · rintro e w' ⟨v', rfl, ho, _, hb⟩
    exact ⟨v', rfl, Kd.R_of_own (enc := Value.int .u8) (h1 := fun _ => rfl) ho (fun _ _ => trivial), hb⟩
end Go.Proofs.YtdffgeoegdkiaaaGreatDoor

namespace Go.Proofs.YtdffgeoegdkiaaaGreatDoor.F
open Go.Proofs.YtdffgeoegdkiaaaGreatDoor
open Go.RowKit Go.Proofs.YtdffgeoegdkiaaaGreatDoorW.PrintWords Go.Proofs.YtdffgeoegdkiaaaGreatDoorW.PrintLast Go.Proofs.YtdffgeoegdkiaaaGreatDoorW.PrintMore
attribute [local go_sem] max2_int min2_int max_two min_two max_three min_three max_four min_four
def spec_tyText.l0 : Nat → ByteArray → Int → Int → Int → List Int → Option (ByteArray)
 | 0, _, _, _, _, _ => none
 | k + 1, x3, x4, x102000, x102001, x102002 => if x4 < x102001 then (if x4 > 0 then (if x3.size + 1 ≤ 9223372036854775807 then (if 0 ≤ (wrap64 (x4 * x102000)) then (if (wrap64 (x4 * x102000)) ≤ (wrap64 ((wrap64 (x4 + 1)) * x102000)) then (if (wrap64 ((wrap64 (x4 + 1)) * x102000)) ≤ (x102002.length : Int) then (if (x3 ++ (⟨#[47]⟩ : ByteArray)).size + (strOfNums ((x102002.take ((wrap64 ((wrap64 (x4 + 1)) * x102000)) : Int).toNat).drop ((wrap64 (x4 * x102000)) : Int).toNat)).size ≤ 9223372036854775807 then (spec_tyText.l0 k ((x3 ++ (⟨#[47]⟩ : ByteArray)) ++ (strOfNums ((x102002.take ((wrap64 ((wrap64 (x4 + 1)) * x102000)) : Int).toNat).drop ((wrap64 (x4 * x102000)) : Int).toNat))) (wrap64 (x4 + 1)) x102000 x102001 x102002) else (none)) else (none)) else (none)) else (none)) else (none)) else (if 0 ≤ (wrap64 (x4 * x102000)) then (if (wrap64 (x4 * x102000)) ≤ (wrap64 ((wrap64 (x4 + 1)) * x102000)) then (if (wrap64 ((wrap64 (x4 + 1)) * x102000)) ≤ (x102002.length : Int) then (if x3.size + (strOfNums ((x102002.take ((wrap64 ((wrap64 (x4 + 1)) * x102000)) : Int).toNat).drop ((wrap64 (x4 * x102000)) : Int).toNat)).size ≤ 9223372036854775807 then (spec_tyText.l0 k (x3 ++ (strOfNums ((x102002.take ((wrap64 ((wrap64 (x4 + 1)) * x102000)) : Int).toNat).drop ((wrap64 (x4 * x102000)) : Int).toNat))) (wrap64 (x4 + 1)) x102000 x102001 x102002) else (none)) else (none)) else (none)) else (none))) else (some x3)
theorem spec_tyText.mono_l : ∀ k, (∀ y0 y1 y2 y3 y4, LeO (spec_tyText.l0 k y0 y1 y2 y3 y4) (spec_tyText.l0 (k + 1) y0 y1 y2 y3 y4))
 | 0 => fun _ _ _ _ _ r h => by simp [spec_tyText.l0] at h
 | k + 1 => by
  have ih0 := spec_tyText.mono_l k
  ·intro y0 y1 y2 y3 y4
   unfold spec_tyText.l0
   exact mo
end Go.Proofs.YtdffgeoegdkiaaaGreatDoor.F

namespace Go.Proofs.YtdffgeoegdkiaaaGreatDoor.F
open Go.RowKit Go.Proofs.YtdffgeoegdkiaaaGreatDoor Go.Proofs.YtdffgeoegdkiaaaGreatDoorW.PrintWords
def textB (g : (Nat × Nat × List Int)) : ByteArray := strOfNums (textG g)
theorem strOfNums_app (a b : List Int) : strOfNums (a ++ b) = strOfNums a ++ strOfNums b := by
  apply ByteArray.ext
  rw [ByteArray.data_append]
  unfold strOfNums
  simp
theorem strOfNums_len (l : List Int) : (strOfNums l).size = l.length := by
  show ((l.map fun n => UInt8.ofNat n.toNat).toArray).size = _
  simp
theorem bytesOf_str {l : List Int} (h : ∀ c ∈ l, 0 ≤ c ∧ c < 256) : bytesOf (strOfNums l) = l := by
  unfold bytesOf strOfNums
  simp only [List.map_map]
  apply List.ext_getElem
  · simp
  · intro i a b
    have := h _ (List.getElem_mem b)
    simp only [List.getElem_map, Function.comp, UInt8.toNat_ofNat']
    omega
theorem joinI_mem : ∀ (rs : List (List Int)) {c : Int}, c ∈ joinI rs → c = 47 ∨ ∃ r ∈ rs, c ∈ r
  | [], c, h => by cases h
  | [a], c, h => .inr ⟨a, by simp, h⟩
  | a :: b :: rs, c, h => by
    rw [joinI] at h
    rcases List.mem_append.1 h with h | h
    · exact .inr ⟨a, by simp, h⟩
    · rcases List.mem_cons.1 h with h | h
      · exact .inl h
      · rcases joinI_mem (b :: rs) h with h | ⟨r, hr, hc⟩
        · exact .inl h
        · exact .inr ⟨r, List.mem_cons_of_mem _ hr, hc⟩
theorem cell_byte {c : Int} (h : isCellC c = true) : 0 ≤ c ∧ c < 256 := by
  unfold isCellC isBallC isNameC at h
  simp at h
  omega
theorem textG_byte {g : (Nat × Nat × List Int)} (v : Vg g) : ∀ c ∈ textG g, 0 ≤ c ∧ c < 256 := by
  intro c hc
  rcases joinI_mem _ hc with h | ⟨r, hr, hcr⟩
  · omega
  · exact cell_byte (v.cell c ((rowsOf_mem v.len hr).2 c hcr))
theorem bytesOf_textB {g : (Nat × Nat × List Int)} (v : Vg g) : bytesOf (textB g) = textG g := bytesOf_str (textG_byte v)
theorem textB_grid {s : ByteArray} {g : (Nat × Nat × List Int)} (h : tyGrid (bytesOf s) = some g) : Vg g ∧ textB g = s := by
  obtain ⟨w, hh, cs⟩ := g
  obtain ⟨v, e⟩ := tyGrid_VG h
  exact ⟨v, bytesOf_inj (by rw [bytesOf_textB (g := (w, hh, cs)) v]; exact e)⟩
end Go.Proofs.YtdffgeoegdkiaaaGreatDoor.F

namespace Go.Proofs.YtdffgeoegdkiaaaGreatDoor.F
open Go.Proofs.YtdffgeoegdkiaaaGreatDoor
open Go.RowKit Go.Proofs.YtdffgeoegdkiaaaGreatDoorW.PrintWords Go.Proofs.YtdffgeoegdkiaaaGreatDoorW.PrintLast Go.Proofs.YtdffgeoegdkiaaaGreatDoorW.PrintMore
attribute [local go_sem] max2_int min2_int max_two min_two max_three min_three max_four min_four
def impl_isName.f (a0 : Int) : Option (Bool) := if a0 ≥ 97 then (some (decide (a0 ≤ 102))) else (some false)
set_option maxHeartbeats 8000000 in
set_option maxRecDepth 100000 in
theorem impl_isName.calls (a0 : Int) (r : Bool) (w : World) (h : impl_isName.f a0 = some r) :
  Calls Tryz.prog 150 #[.int .u8 a0] w fun e w' => e = .returned (.bool r) ∧ Drawn0 w w' := by
 have H : (if a0 ≥ 97 then (some (decide (a0 ≤ 102))) else (some false)) = some r := h
 clear h
 by_cases c2 : a0 ≥ 97
 ·rw [if_pos c2] at H
  have c2b0 := decide_eq_true c2
  clear c2
  obtain rfl := Option.some.inj H
  go_enter Tryz.func150, Tryz.ntmps150
  go_wp2
  go_ret
  exact ⟨aq7, aq11⟩
 ·rw [if_neg c2] at H
  have c2b0 := decide_eq_false c2
  clear c2
  obtain rfl := Option.some.inj H
  go_enter Tryz.func150, Tryz.ntmps150
  go_wp2
  go_ret
  exact ⟨aq7, aq11⟩
def slices_Index_byte_byte.l0 : Nat → List Int → Int → Int → Int → Option (Int)
 | 0, _, _, _, _ => none
 | k + 1, x0, x1, x7, x8 => if x8 < x7 then (if 0 ≤ x8 then (if x8 < (x0.length : Int) then (if x1 = (rd x0 x8) then (some x8) else (slices_Index_byte_byte.l0 k x0 x1 x7 (wrap64 (x8 + 1)))) else (none)) else (none)) else (some (-1))
def slices_Index_byte_byte.f (k : Nat) (l0 : List Int) (a1 : Int) : Option (Int) := slices_Index_byte_byte.l0 k l0 a1 (l0.length : Int) 0
theorem slices_Index_byte_byte.mono_l : ∀ k, (∀ y0 y1 y2 y3, LeO (slices_Index_byte_byte.l0 k y0 y1 y2 y3) (slices_Index_byte_byte.l0 (k + 1) y0 y1 y2 y3))
 | 0 => fun _ _ _ _ r h => by simp [slices_Index_byte_byte.l0] at h
 | k + 1 => by
  have ih0 := slices_Index_byte_byte.mono_l k
  ·intro y0 y1 y2 y3
   unfold slices_Index_byte_byte.l0
   exact mo
theorem slices_Index_byte_byte.mono : ∀ a0 a1 k, LeO (slices_Index_byte_byte.f k a0 a1) (slices_Index_byte_byte.f (k + 1) a0 a1) := by
 intro a0 a1 k
 have ih0 := slices_Index_byte_byte.mono_l k
 unfold slices_Index_byte_byte.f
 exact mo
def impl_cellOf.j0 : Nat → ByteArray → ByteArray → Bool → Option (Int × Bool)
 | 0, _, _, _ => none
 | k + 1, x0, x1, x20 => if x20 = true then (some (0, false)) else ((impl_read.f x0).bind fun bt103 => (if 0 < (x1.size : Int) then ((slices_Index_byte_byte.f k bt103.2.2 (bt x1 0)).bind fun t108 => (some (t108, decide (t108 ≥ 0)))) else (none)))
theorem impl_cellOf.mono_l : ∀ k, (∀ y0 y1 y2, LeO (impl_cellOf.j0 k y0 y1 y2) (impl_cellOf.j0 (k + 1) y0 y1 y2))
 | 0 => fun _ _ _ r h => by simp [impl_cellOf.j0] at h
 | k + 1 => by
  have ih0 := impl_cellOf.mono_l k
  ·intro y0 y1 y2
   unfold impl_cellOf.j0
   have im0 := @impl_IsTray.mono; have im1 := @slices_Index_byte_byte.mono; exact mo
end Go.Proofs.YtdffgeoegdkiaaaGreatDoor.F

namespace Go.Proofs.YtdffgeoegdkiaaaGreatDoor.F
open Go.RowKit Go.Proofs.YtdffgeoegdkiaaaGreatDoor Go.Proofs.YtdffgeoegdkiaaaGreatDoorW.PrintWords

end Go.Proofs.YtdffgeoegdkiaaaGreatDoor.F

namespace Go.Proofs.YtdffgeoegdkiaaaGreatDoor
open Go.RowKit Go.Proofs.YtdffgeoegdkiaaaGreatDoorW.PrintWords Go.Proofs.YtdffgeoegdkiaaaGreatDoorW.PrintLast Go.Proofs.YtdffgeoegdkiaaaGreatDoorW.PrintMore Go.Lib Go.Shelf
def inR (lo hi x : Int) : Bool := decide (lo ≤ x) && decide (x ≤ hi)
theorem within_calls (a0 a1 a2 : Int) (w : World) :
    Calls Tryz.prog 56 #[.int .i64 a0, .int .i64 a1, .int .i64 a2] w fun e w' => e = .returned (.bool (inR a1 a2 a0)) ∧ Drawn0 w w' := by
  unfold inR
  by_cases c4 : a1 ≤ a0
  · have c4b0 : decide (a1 ≤ a0) = true := decide_eq_true c4
    rw [c4b0]
    go_enter Tryz.func56, Tryz.ntmps56
    go_wp2
    go_ret
    exact ⟨by first | rfl | (simp; done) | (simp [*]; done), by repeat (first | exact Drawn0.refl _ | apply Drawn0.step)⟩
  · have c4b0 : decide (a1 ≤ a0) = false := decide_eq_false c4
    rw [c4b0]
    go_enter Tryz.func56, Tryz.ntmps56
    go_wp2
    go_ret
    exact ⟨by first | rfl | (simp; done) | (simp [*]; done), by repeat (first | exact Drawn0.refl _ | apply Drawn0.step)⟩
theorem notWithin_pred (lo hi : Int) (B C : Nat) (w : World) (hB : B < w.heap.size) (hC : C < w.heap.size) (h1 : w.cell? ⟨B, 0, none⟩ = some (.int .i64 lo)) (h2 : w.cell? ⟨C, 0, none⟩ = some (.int .i64 hi)) :
    PredAt Tryz.prog 195 #[.pointer (some ⟨B, 0, none⟩), .pointer (some ⟨C, 0, none⟩)] (Value.int .i64) (fun x => !(inR lo hi x)) w := fun W x hb => by
  have hc1 : W.cell? ⟨B, 0, none⟩ = some (.int .i64 lo) := (hb.cell (p := ⟨B, 0, none⟩) hB).trans h1
  have hc2 : W.cell? ⟨C, 0, none⟩ = some (.int .i64 hi) := (hb.cell (p := ⟨C, 0, none⟩) hC).trans h2
  have hcall := fun W => within_calls x lo hi W
  show Calls Tryz.prog 195 #[.int .i64 x, .pointer (some ⟨B, 0, none⟩), .pointer (some ⟨C, 0, none⟩)] W _
  go_enter Tryz.func195, Tryz.ntmps195
  go_wp2_with (first | (go_at_call 56; refine (hcall _).mono ?_; rintro e w' ⟨rfl, ⟨nd, rfl⟩⟩))
  all_goals (go_ret; exact ⟨by first | rfl | (simp; done) | (simp [*]; done), ⟨_, rfl⟩⟩)
def impl_areWithin.f (l : List Int) (lo hi : Int) : Option Bool := some (l.all (inR lo hi))
set_option maxHeartbeats 1000000 in
theorem impl_areWithin.calls (A0 : Option Addr) (c0 : Nat) (l0 : List Int) (a1 a2 : Int) (r : Bool) (w : World) (hr0 : Kd.C (Kd.int .i64) w A0 l0.length l0) (hc0 : l0.length ≤ c0) (h : impl_areWithin.f l0 a1 a2 = some r) :
    Calls Tryz.prog 168 #[.slice A0 l0.length c0, .int .i64 a1, .int .i64 a2] w fun e w' => e = .returned (.bool r) ∧ Below w.heap.size w w' := by
  unfold impl_areWithin.f at h
  injection h with h
  subst h
  have hlen : l0.length ≤ 9223372036854775807 := hr0.2.1
  have e71 : ∀ args w, (callFunc 195 args).run Tryz.prog w = .ok (.enter 195 args) w := enters_of Tryz.func195 (by kernel_rfl) rfl
  have hcon : Calls Tryz.prog 194 #[.slice A0 l0.length c0, .func (.func 195) #[] #[.pointer (some ⟨w.heap.size, 0, none⟩), .pointer (some ⟨w.heap.size + 1, 0, none⟩)]] ((w.alloc (.cells #[.int .i64 a1] 3)).alloc (.cells #[.int .i64 a2] 3)) fun e w' => e = .returned (.bool (l0.any (fun x => !(inR a1 a2 x)))) ∧ Below w.heap.size w w' := by
    have hbw : Below w.heap.size w ((w.alloc (.cells #[.int .i64 a1] 3)).alloc (.cells #[.int .i64 a2] 3)) := below_alloc (below_alloc (Below.refl _ w) _) _
    rcases Nat.eq_zero_or_pos l0.length with h0 | h0
    · obtain rfl : l0 = [] := List.eq_nil_of_length_eq_zero h0
      exact (Tryz.slices_ContainsFunc_empty (α := Int) A0 c0 _ _).mono fun e w' ⟨he, hw⟩ => ⟨he, hw ▸ hbw⟩
    · obtain ⟨bk, o, rfl, hbk, hcells⟩ := C_place hr0 h0
      have hpred := notWithin_pred a1 a2 w.heap.size (w.heap.size + 1) ((w.alloc (.cells #[.int .i64 a1] 3)).alloc (.cells #[.int .i64 a2] 3)) (by simp; omega) (by simp) (by simp) (by simp)
      refine (Tryz.slices_ContainsFunc (α := Int) (Value.int .i64) (fun x => !(inR a1 a2 x)) 195 _ e71 bk o l0.length c0 l0 _ hpred (Nat.le_refl _) hlen ?_).mono ?_
      · intro j hj
        rw [hbw.cell (p := ⟨bk, o + j, none⟩) hbk]
        exact hcells j _ (by simp [hj])
      · rintro e w' ⟨he, q, rfl⟩
        rw [List.take_length] at he
        exact ⟨he, pw_below_drewN hbw q⟩
  have hall : l0.all (inR a1 a2) = !(l0.any (fun x => !(inR a1 a2 x))) := by
    rw [List.not_any_eq_all_not]; simp
  rw [hall]
  generalize l0.any (fun x => !(inR a1 a2 x)) = b at hcon ⊢
  go_enter Tryz.func168, Tryz.ntmps168
  go_wp2_with (first | (go_at_call 194; refine hcon.mono ?_; rintro e w' ⟨rfl, hb⟩))
  go_ret
  exact ⟨rfl, hb⟩
end Go.Proofs.YtdffgeoegdkiaaaGreatDoor

namespace Go.Proofs.YtdffgeoegdkiaaaGreatDoor.F
open Go.Proofs.YtdffgeoegdkiaaaGreatDoor
open Go.RowKit Go.Proofs.YtdffgeoegdkiaaaGreatDoorW.PrintWords Go.Proofs.YtdffgeoegdkiaaaGreatDoorW.PrintLast Go.Proofs.YtdffgeoegdkiaaaGreatDoorW.PrintMore
attribute [local go_sem] max2_int min2_int max_two min_two max_three min_three max_four min_four
def impl_isNumber.f (k : Nat) (a0 : ByteArray) (l1 : List Int) : Option (Bool) := (impl_IsTray.f k a0).bind fun t101 => (if t101 = true then ((impl_read.f a0).bind fun bt102 => ((impl_areWithin.f l1 0 (wrap64 ((bt102.2.2.length : Int) - 1))).bind fun t107 => (some t107))) else (some false))
theorem impl_isNumber.mono : ∀ a0 a1 k, LeO (impl_isNumber.f k a0 a1) (impl_isNumber.f (k + 1) a0 a1) := by
 intro a0 a1 k
 unfold impl_isNumber.f
 have im0 := @impl_IsTray.mono; exact mo
set_option maxHeartbeats 8000000 in
set_option maxRecDepth 100000 in
theorem impl_isNumber.calls (k : Nat) (a0 : ByteArray) (A1 : Option Addr) (c1 : Nat) (l1 : List Int) (r : Bool) (w : World) (hr1 : Kd.C (Kd.int .i64) w A1 l1.length l1) (hc1 : l1.length ≤ c1) (h : impl_isNumber.f k a0 l1 = some r) :
  Calls Tryz.prog 127 #[.string a0, .slice A1 l1.length c1] w fun e w' => e = .returned (.bool r) ∧ Below w.heap.size w w' := by
 have hfd93_2 : ∀ (x0_ x1_ x2_ : Value) (W : World), (Instr.field 93 (.agg #[x0_, x1_, x2_]) 2).run Tryz.prog W = .ok x2_ W := fun _ _ _  _ => by kernel_rfl
 have HR1 := am hr1
 have HC1 := am hc1
 clear hr1 hc1
 have HB := am (Below.refl w.heap.size w)
 have H : ((impl_IsTray.f k a0).bind fun t101 => (if t101 = true then ((impl_read.f a0).bind fun bt102 => ((impl_areWithin.f l1 0 (wrap64 ((bt102.2.2.length : Int) - 1))).bind fun t107 => (some t107))) else (some false))) = some r := h
 clear h
 obtain ⟨t101, A30, H⟩ := Option.bind_eq_some_iff.mp H
 have A3 := am A30
 clear A30
 by_cases c4 : t101 = true
 ·subst c4
  rw [if_pos rfl] at H
  replace H := Option.bind_eq_some_iff.mp H
  obtain ⟨⟨t102, t103, t104⟩, A50, H⟩ := H
  replace H : ((impl_areWithin.f l1 0 (wrap64 ((t104.length : Int) - 1))).bind fun t107 => (some t107)) = some r := H
  have A5 := am A50
  clear A50
  obtain ⟨t107, A60, H⟩ := Option.bind_eq_some_iff.mp H
  have A6 := am A60
  clear A60
  obtain rfl := Option.some.inj H
  go_enter Tryz.func127, Tryz.ntmps127
  go_wp2_with (first | ((with_reducible refine gate_callee (f := 55) rfl ?_); refine goesL_ (some 6) rfl rfl Tryz.func55 (by kernel_rfl) rfl #[.string a0] rfl aq5 ?_; (with_reducible refine (impl_IsTray.calls k a0 true _ A3.out).mono ?_); rintro e w7 ⟨rfl, hb⟩; refine ⟨_, rfl, ?_⟩; have n0_ := am (below_step aq1 hb); clear HB; have HB := n0_; clear n0_; (try clear hb); (try clear hb2); (try clear hk); (try clear hi)) | (go_at_call 89; (with_reducible refine (impl_read.calls a0 t102 t103 t104 _ A5.out).mono ?_); rintro e w8 ⟨v105, rfl, ho0, hb⟩; have n0_ := am (Kd.V_lower (Kd.V_mono (ok' := fun k_ => True) ho0 (fun k_ hk_ => trivial)) (below_size aq1)); have n1_ := am (below_step aq1 hb); clear HB; have HO106 := n0_; have HB := n1_; clear n0_ n1_; (try clear hb); (try clear hb2); (try clear hk); (try clear hi); (try clear ho0); obtain ⟨Ao9, co9, eo9⟩ := Kd.V_slice HO106.out; subst eo9) | (go_at_call 168; (with_reducible refine (impl_areWithin.calls _ _ l1 0 (wrap64 ((t104.length : Int) - 1)) t107 _ ?side1 ?side2 A6.out).mono ?_); (case side1 => exact aq15); (case side2 => exact HC1.out); rintro e w10 ⟨rfl, hb⟩; have n0_ := am (Kd.V_below (by (with_reducible repeat (first | apply Kd.V_alloc | apply Kd.V_drewN | apply Kd.V_drew)); exact HO106.out) hb); have n1_ := am (below_step aq1 hb); clear HO106; clear HB; have HO106 := n0_; have HB := n1_; clear n0_ n1_; (try clear hb); (try clear hb2); (try clear hk); (try clear hi)))
  go_ret
  exact ⟨aq8, aq1⟩
 ·replace c4 := Bool.eq_false_iff.mpr c4
  subst c4
  rw [if_neg Bool.false_ne_true] at H
  obtain rfl := Option.some.inj H
  go_enter Tryz.func127, Tryz.ntmps127
  go_wp2_with (first | ((with_reducible refine gate_callee (f := 55) rfl ?_); refine goesL_ (some 6) rfl rfl Tryz.func55 (by kernel_rfl) rfl #[.string a0] rfl aq5 ?_; (with_reducible refine (impl_IsTray.calls k a0 false _ A3.out).mono ?_); rintro e w11 ⟨rfl, hb⟩; refine ⟨_, rfl, ?_⟩; have n0_ := am (below_step aq1 hb); clear HB; have HB := n0_; clear n0_; (try clear hb); (try clear hb2); (try clear hk); (try clear hi)))
  go_ret
  exact ⟨aq8, aq1⟩
def impl_IsPuzzle.T2 : Bool × List (List Nat × List Nat) := (true, [([], []), ([0], [0]), ([1], [1]), ([2, 1], [1, 2]), ([1], [1]), ([4, 1], [1, 4]), ([5, 1], [1, 5]), ([3, 6, 1, 1], [1, 3, 6]), ([1, 7], [1, 7]), ([8, 7], [8]), ([9], [9]), ([10, 9], [9, 10]), ([11, 9, 9], [9, 11]), ([12, 9], [9, 12]), ([9], [9]), ([14, 9], [9, 14]), ([13, 15, 9], [9, 13, 15]), ([16, 9], [9, 16]), ([17, 9], [9, 17]), ([9, 18], [9, 18]), ([19, 12, 0, 1, 2, 3, 4, 5, 6, 7, 8, 9, 10, 11, 12, 13, 14, 15, 16, 17, 18, 19], [19])])
def impl_IsPuzzle.B2 : List Nat := [0, 1, 3, 7, 3, 19, 51, 127, 255, 511, 1023, 2047, 4095, 8191, 1023, 17407, 65535, 131071, 262143, 524287, 1048575]
theorem impl_IsPuzzle.tab2 : rtab .any (opsOf Tryz.f88 2) = impl_IsPuzzle.T2 := by kernel_rfl
theorem impl_IsPuzzle.bits2 : waitsOk impl_IsPuzzle.T2.2 impl_IsPuzzle.B2 = true := by kernel_rfl
def spec_l1In.f (a0 : Int) (a1 : Int) (a2 : Int) : Option (Bool) := if a0 ≥ a1 then (some (decide (a0 ≤ a2))) else (some false)
set_option maxHeartbeats 8000000 in
set_option maxRecDepth 100000 in
theorem spec_l1In.calls (a0 : Int) (a1 : Int) (a2 : Int) (r : Bool) (w : World) (h : spec_l1In.f a0 a1 a2 = some r) :
  Calls Tryz.prog 52 #[.int .i64 a0, .int .i64 a1, .int .i64 a2] w fun e w' => e = .returned (.bool r) ∧ Drawn0 w w' := by
 have H : (if a0 ≥ a1 then (some (decide (a0 ≤ a2))) else (some false)) = some r := h
 clear h
 by_cases c4 : a0 ≥ a1
 ·rw [if_pos c4] at H
  have c4b0 := decide_eq_true c4
  clear c4
  obtain rfl := Option.some.inj H
  go_enter Tryz.func52, Tryz.ntmps52
  go_wp2
  go_ret
  exact ⟨aq7, aq11⟩
 ·rw [if_neg c4] at H
  have c4b0 := decide_eq_false c4
  clear c4
  obtain rfl := Option.some.inj H
  go_enter Tryz.func52, Tryz.ntmps52
  go_wp2
  go_ret
  exact ⟨aq7, aq11⟩
def spec_tiPlace.l0 : Nat → Int → List Int → Int → Int → Option (Int)
 | 0, _, _, _, _ => none
 | k + 1, x1, x8, x9, x10 => if x10 < x9 then (if 0 ≤ x10 then (if x10 < (x8.length : Int) then (if (rd x8 x10) = x1 then (some x10) else (spec_tiPlace.l0 k x1 x8 x9 (wrap64 (x10 + 1)))) else (none)) else (none)) else (some (-1))
theorem spec_tiPlace.mono_l : ∀ k, (∀ y0 y1 y2 y3, LeO (spec_tiPlace.l0 k y0 y1 y2 y3) (spec_tiPlace.l0 (k + 1) y0 y1 y2 y3))
 | 0 => fun _ _ _ _ r h => by simp [spec_tiPlace.l0] at h
 | k + 1 => by
  have ih0 := spec_tiPlace.mono_l k
  ·intro y0 y1 y2 y3
   unfold spec_tiPlace.l0
   exact mo

def spec_puGood.T2 : Bool × List (List Nat × List Nat) := (true, [([], []), ([0], [0]), ([1], [1]), ([2], [2]), ([3, 2], [2, 3]), ([4, 2, 2], [2, 4]), ([5, 2], [2, 5]), ([2, 6], [2, 6]), ([7, 5], [7]), ([8], [8]), ([8], [8]), ([10, 8], [8, 10]), ([11, 8], [8, 11]), ([9, 12, 8, 8], [8, 9, 12]), ([13, 8], [8, 13]), ([8, 14], [8, 14])])
def spec_puGood.B2 : List Nat := [0, 1, 3, 7, 15, 31, 63, 127, 255, 511, 511, 1535, 3583, 8191, 16383, 32767]
theorem spec_puGood.tab2 : rtab .any (opsOf Tryz.f83 2) = spec_puGood.T2 := by kernel_rfl
theorem spec_puGood.bits2 : waitsOk spec_puGood.T2.2 spec_puGood.B2 = true := by kernel_rfl
end Go.Proofs.YtdffgeoegdkiaaaGreatDoor.F

namespace Go.Proofs.YtdffgeoegdkiaaaGreatDoor.F
open Go.RowKit Go.Proofs.YtdffgeoegdkiaaaGreatDoor Go.Proofs.YtdffgeoegdkiaaaGreatDoorW.PrintWords Go.Proofs.YtdffgeoegdkiaaaGreatDoorW.PrintMore
theorem tray_small {g : (Nat × Nat × List Int)} (v : Vg g) : 1 ≤ g.2.2.length ∧ g.2.2.length ≤ 36 := by
  rw [show g.2.2.length = g.1 * g.2.1 from v.len]
  exact ⟨Nat.mul_pos v.w1 v.h1, v.small⟩
theorem impl_isNumber_ev (t : ByteArray) (l : List Int) (ht : t.size < 4294967281) : Ev (fun k => impl_isNumber.f k t l) (match tyGrid (bytesOf t) with | none => false | some g => l.all (inR 0 ((g.2.2.length : Int) - 1))) := by
  have h1 := impl_IsTray_ev t ht
  cases hg : tyGrid (bytesOf t) with
  | none =>
    rw [hg] at h1
    exact Ev.bind h1 (Ev.congr (fun k => if_neg (by simp)) (Ev.now _))
  | some g =>
    rw [hg] at h1
    obtain ⟨v, _⟩ := textB_grid hg
    obtain ⟨w, h, cs⟩ := g
    have hs := tray_small v
    refine Ev.bind h1 (Ev.congr (fun k => if_pos (by simp)) (Ev.congr (fun k => ?_) (Ev.now _)))
    rw [impl_read_eq t hg, Option.bind_some]
    show (impl_areWithin.f l 0 (wrap64 ((cs.length : Int) - 1))).bind _ = _
    simp only at hs
    rw [w64 (by omega) (by omega), impl_areWithin.f, Option.bind_some]
end Go.Proofs.YtdffgeoegdkiaaaGreatDoor.F

namespace Go.Proofs.YtdffgeoegdkiaaaGreatDoor
def isDirC (c : Int) : Bool := c == 117 || c == 114 || c == 100 || c == 108
def dirIx (c : Int) : Int := if c = 117 then 0 else if c = 114 then 1 else if c = 100 then 2 else if c = 108 then 3 else -1
theorem dirIx_neg (c : Int) : dirIx c < 0 ↔ isDirC c = false := by
  unfold dirIx isDirC
  by_cases h1 : c = 117
  · simp [h1]
  by_cases h2 : c = 114
  · simp [h2]
  by_cases h3 : c = 100
  · simp [h3]
  by_cases h4 : c = 108
  · simp [h4]
  simp [h1, h2, h3, h4]
def dirB (d : Nat) : Int := if d = 0 then 117 else if d = 1 then 114 else if d = 2 then 100 else 108
theorem dirB_ix {c : Int} (h : isDirC c = true) : dirB (dirIx c).toNat = c ∧ (dirIx c).toNat < 4 ∧ 0 ≤ dirIx c := by
  have : c = 117 ∨ c = 114 ∨ c = 100 ∨ c = 108 := by
    unfold isDirC at h
    simp at h
    omega
  rcases this with rfl | rfl | rfl | rfl <;> exact ⟨rfl, by decide, by decide⟩
end Go.Proofs.YtdffgeoegdkiaaaGreatDoor

namespace Go.Proofs.YtdffgeoegdkiaaaGreatDoor.F
open Go.Proofs.YtdffgeoegdkiaaaGreatDoor
open Go.RowKit Go.Proofs.YtdffgeoegdkiaaaGreatDoorW.PrintWords Go.Proofs.YtdffgeoegdkiaaaGreatDoorW.PrintLast Go.Proofs.YtdffgeoegdkiaaaGreatDoorW.PrintMore
attribute [local go_sem] max2_int min2_int max_two min_two max_three min_three max_four min_four

def spec_tiDirs.f  : Option (ByteArray) := some (⟨#[117, 114, 100, 108]⟩ : ByteArray)
set_option maxHeartbeats 8000000 in
set_option maxRecDepth 100000 in
theorem spec_tiDirs.calls  (r : ByteArray) (w : World) (h : spec_tiDirs.f  = some r) :
  Calls Tryz.prog 98 #[] w fun e w' => e = .returned (.string r) ∧ Drawn0 w w' := by
 have H : (some (⟨#[117, 114, 100, 108]⟩ : ByteArray)) = some r := h
 clear h
 obtain rfl := Option.some.inj H
 go_enter Tryz.func98, Tryz.ntmps98
 go_wp2
 go_ret
 exact ⟨aq7, aq11⟩
def spec_tiDir.l0 : Nat → ByteArray → Int → Option (Int)
 | 0, _, _ => none
 | k + 1, x0, x3 => if x3 < 4 then ((spec_tiDirs.f).bind fun t101 => (if 0 ≤ x3 then (if x3 ≤ (wrap64 (x3 + 1)) then (if (wrap64 (x3 + 1)) ≤ (t101.size : Int) then (if x0.toList = (t101.extract (x3 : Int).toNat ((wrap64 (x3 + 1)) : Int).toNat).toList then (some x3) else (spec_tiDir.l0 k x0 (wrap64 (x3 + 1)))) else (none)) else (none)) else (none))) else (some (-1))
def spec_tiDir.f (k : Nat) (a0 : ByteArray) : Option (Int) := spec_tiDir.l0 k a0 0
theorem spec_tiDir.mono_l : ∀ k, (∀ y0 y1, LeO (spec_tiDir.l0 k y0 y1) (spec_tiDir.l0 (k + 1) y0 y1))
 | 0 => fun _ _ r h => by simp [spec_tiDir.l0] at h
 | k + 1 => by
  have ih0 := spec_tiDir.mono_l k
  ·intro y0 y1
   unfold spec_tiDir.l0
   exact mo
theorem spec_tiDir.mono : ∀ a0 k, LeO (spec_tiDir.f k a0) (spec_tiDir.f (k + 1) a0) := by
 intro a0 k
 have ih0 := spec_tiDir.mono_l k
 unfold spec_tiDir.f
 exact mo
set_option maxHeartbeats 8000000 in
set_option maxRecDepth 100000 in
theorem spec_tiDir.calls (k : Nat) (a0 : ByteArray) (r : Int) (w : World) (h : spec_tiDir.f k a0 = some r) :
  Calls Tryz.prog 86 #[.string a0] w fun e w' => e = .returned (.int .i64 r) ∧ Drawn0 w w' := by
 have H : (spec_tiDir.l0 k a0 0) = some r := h
 clear h
 have H' := am H
 clear H
 go_enter Tryz.func86, Tryz.ntmps86
 go_wp2
 go_loopg [3] k (fun kq v3 w' => ∃ (x3_1 : Int), v3 = .int .i64 x3_1 ∧ Aside0 (spec_tiDir.l0 kq a0 x3_1 = some r) ∧ Aside0 (kq ≤ k) ∧ Drawn0 w w')
 case atStart => exact ⟨(0), aq7, H', ⟨Nat.le_refl _⟩, aq11⟩
 case round =>
  clear H'
  obtain ⟨x3_1, rfl, HA, HK1, ⟨m1, rfl⟩⟩ := hrel
  cases gk with
  | zero => exact absurd HA.out (by simp [spec_tiDir.l0])
  | succ k1 =>
   have H := HA.out
   clear HA
   simp only [spec_tiDir.l0] at H
   by_cases c2 : x3_1 < 4
   ·rw [if_pos c2] at H
    have c2b0 := decide_eq_true c2
    clear c2
    obtain ⟨t101, A30, H⟩ := Option.bind_eq_some_iff.mp H
    have A3 := am A30
    clear A30
    by_cases c4 : 0 ≤ x3_1
    ·rw [if_pos c4] at H
     have c4b0 := eq_true c4
     have c4b1 := decide_eq_true c4
     clear c4
     by_cases c5 : x3_1 ≤ (wrap64 (x3_1 + 1))
     ·rw [if_pos c5] at H
      have c5b0 := eq_true c5
      have c5b1 := decide_eq_true c5
      by_cases c6 : (wrap64 (x3_1 + 1)) ≤ (t101.size : Int)
      ·rw [if_pos c6] at H
       have c6b0 := eq_true c6
       have c6b1 := decide_eq_true c6
       by_cases c7 : a0.toList = (t101.extract (x3_1 : Int).toNat ((wrap64 (x3_1 + 1)) : Int).toNat).toList
       ·rw [if_pos c7] at H
        have c7b0 := beq_iff_eq.mpr c7
        have c7b1 := bne_eq_false_iff_eq.mpr c7
        clear c7
        obtain rfl := Option.some.inj H
        go_wp2_with (first | ((with_reducible refine gate_callee (f := 98) rfl ?_); refine goesL_ (some 9) rfl rfl Tryz.func98 (by kernel_rfl) rfl #[] rfl aq5 ?_; (with_reducible refine (spec_tiDirs.calls  t101 _ A3.out).mono ?_); rintro e w' ⟨rfl, ⟨nd, rfl⟩⟩; refine ⟨_, rfl, ?_⟩))
        go_ret
        exact ⟨aq7, aq11⟩
       ·rw [if_neg c7] at H
        have c7b0 := beq_eq_false_iff_ne.mpr c7
        have c7b1 := bne_iff_ne.mpr c7
        have H' := am H
        clear H
        go_wp2_with (first | ((with_reducible refine gate_callee (f := 98) rfl ?_); refine goesL_ (some 9) rfl rfl Tryz.func98 (by kernel_rfl) rfl #[] rfl aq5 ?_; (with_reducible refine (spec_tiDirs.calls  t101 _ A3.out).mono ?_); rintro e w' ⟨rfl, ⟨nd, rfl⟩⟩; refine ⟨_, rfl, ?_⟩))
        go_roundg k1
        case measure => have := HK1.out; omega
        case rel => exact ⟨(wrap64 (x3_1 + 1)), aq7, H', ⟨aq73⟩, aq11⟩
      ·rw [if_neg c6] at H
       exact absurd H (by simp)
     ·rw [if_neg c5] at H
      exact absurd H (by simp)
    ·rw [if_neg c4] at H
     exact absurd H (by simp)
   ·rw [if_neg c2] at H
    have c2b0 := decide_eq_false c2
    clear c2
    obtain rfl := Option.some.inj H
    go_wp2
    go_ret
    exact ⟨aq7, aq11⟩
def spec_tiWord.l0 : Nat → ByteArray → Int → Option (Bool)
 | 0, _, _ => none
 | k + 1, x0, x3 => if x3 < (x0.size : Int) then (if 0 ≤ x3 then (if x3 ≤ (wrap64 (x3 + 1)) then (if (wrap64 (x3 + 1)) ≤ (x0.size : Int) then ((spec_tiDir.f k (x0.extract (x3 : Int).toNat ((wrap64 (x3 + 1)) : Int).toNat)).bind fun t101 => (if t101 < 0 then (some false) else (spec_tiWord.l0 k x0 (wrap64 (x3 + 1))))) else (none)) else (none)) else (none)) else (some true)
def spec_tiWord.f (k : Nat) (a0 : ByteArray) : Option (Bool) := if (a0.size : Int) > 40 then (some false) else (spec_tiWord.l0 k a0 0)
theorem spec_tiWord.mono_l : ∀ k, (∀ y0 y1, LeO (spec_tiWord.l0 k y0 y1) (spec_tiWord.l0 (k + 1) y0 y1))
 | 0 => fun _ _ r h => by simp [spec_tiWord.l0] at h
 | k + 1 => by
  have ih0 := spec_tiWord.mono_l k
  ·intro y0 y1
   unfold spec_tiWord.l0
   have im0 := @spec_tiDir.mono; exact mo
theorem spec_tiWord.mono : ∀ a0 k, LeO (spec_tiWord.f k a0) (spec_tiWord.f (k + 1) a0) := by
 intro a0 k
 have ih0 := spec_tiWord.mono_l k
 unfold spec_tiWord.f
 have im0 := @spec_tiDir.mono; exact mo
set_option maxHeartbeats 8000000 in
set_option maxRecDepth 100000 in
theorem spec_tiWord.calls (k : Nat) (a0 : ByteArray) (r : Bool) (w : World) (h : spec_tiWord.f k a0 = some r) :
  Calls Tryz.prog 84 #[.string a0] w fun e w' => e = .returned (.bool r) ∧ Drawn0 w w' := by
 have H : (if (a0.size : Int) > 40 then (some false) else (spec_tiWord.l0 k a0 0)) = some r := h
 clear h
 by_cases c2 : (a0.size : Int) > 40
 ·rw [if_pos c2] at H
  have c2b0 := decide_eq_true c2
  have c2b1 : decide (40 < a0.size) = true := decide_eq_true (by omega)
  clear c2
  obtain rfl := Option.some.inj H
  go_enter Tryz.func84, Tryz.ntmps84
  go_wp2
  go_ret
  exact ⟨aq7, aq11⟩
 ·rw [if_neg c2] at H
  have c2b0 := decide_eq_false c2
  have c2b1 : decide (40 < a0.size) = false := decide_eq_false (by omega)
  clear c2
  have H' := am H
  clear H
  go_enter Tryz.func84, Tryz.ntmps84
  go_wp2
  go_loopg [3] k (fun kq v3 w' => ∃ (x3_1 : Int), v3 = .int .i64 x3_1 ∧ Aside0 (spec_tiWord.l0 kq a0 x3_1 = some r) ∧ Aside0 (kq ≤ k) ∧ Drawn0 w w')
  case atStart => exact ⟨(0), aq7, H', ⟨Nat.le_refl _⟩, aq11⟩
  case round =>
   clear H'
   try clear c2
   try clear c2b0
   try clear c2b1
   try clear p2
   obtain ⟨x3_1, rfl, HA, HK1, ⟨m1, rfl⟩⟩ := hrel
   cases gk with
   | zero => exact absurd HA.out (by simp [spec_tiWord.l0])
   | succ k1 =>
    have H := HA.out
    clear HA
    simp only [spec_tiWord.l0] at H
    by_cases c3 : x3_1 < (a0.size : Int)
    ·rw [if_pos c3] at H
     have c3b0 := decide_eq_true c3
     clear c3
     by_cases c4 : 0 ≤ x3_1
     ·rw [if_pos c4] at H
      have c4b0 := eq_true c4
      have c4b1 := decide_eq_true c4
      clear c4
      by_cases c5 : x3_1 ≤ (wrap64 (x3_1 + 1))
      ·rw [if_pos c5] at H
       have c5b0 := eq_true c5
       have c5b1 := decide_eq_true c5
       by_cases c6 : (wrap64 (x3_1 + 1)) ≤ (a0.size : Int)
       ·rw [if_pos c6] at H
        have c6b0 := eq_true c6
        have c6b1 := decide_eq_true c6
        obtain ⟨t101, A70, H⟩ := Option.bind_eq_some_iff.mp H
        have A7 := am A70
        clear A70
        by_cases c8 : t101 < 0
        ·rw [if_pos c8] at H
         have c8b0 := decide_eq_true c8
         clear c8
         obtain rfl := Option.some.inj H
         go_wp2_with (first | ((with_reducible refine gate_callee (f := 86) rfl ?_); refine goesL_ (some 18) rfl rfl Tryz.func86 (by kernel_rfl) rfl #[.string (a0.extract (x3_1 : Int).toNat ((wrap64 (x3_1 + 1)) : Int).toNat)] rfl aq5 ?_; (with_reducible refine (spec_tiDir.calls k1 (a0.extract (x3_1 : Int).toNat ((wrap64 (x3_1 + 1)) : Int).toNat) t101 _ A7.out).mono ?_); rintro e w' ⟨rfl, ⟨nd, rfl⟩⟩; refine ⟨_, rfl, ?_⟩))
         go_ret
         exact ⟨aq7, aq11⟩
        ·rw [if_neg c8] at H
         have c8b0 := decide_eq_false c8
         clear c8
         have H' := am H
         clear H
         go_wp2_with (first | ((with_reducible refine gate_callee (f := 86) rfl ?_); refine goesL_ (some 18) rfl rfl Tryz.func86 (by kernel_rfl) rfl #[.string (a0.extract (x3_1 : Int).toNat ((wrap64 (x3_1 + 1)) : Int).toNat)] rfl aq5 ?_; (with_reducible refine (spec_tiDir.calls k1 (a0.extract (x3_1 : Int).toNat ((wrap64 (x3_1 + 1)) : Int).toNat) t101 _ A7.out).mono ?_); rintro e w' ⟨rfl, ⟨nd, rfl⟩⟩; refine ⟨_, rfl, ?_⟩))
         go_roundg k1
         case measure => have := HK1.out; omega
         case rel => exact ⟨(wrap64 (x3_1 + 1)), aq7, H', ⟨aq73⟩, aq11⟩
       ·rw [if_neg c6] at H
        exact absurd H (by simp)
      ·rw [if_neg c5] at H
       exact absurd H (by simp)
     ·rw [if_neg c4] at H
      exact absurd H (by simp)
    ·rw [if_neg c3] at H
     have c3b0 := decide_eq_false c3
     clear c3
     obtain rfl := Option.some.inj H
     go_wp2
     go_ret
     exact ⟨aq7, aq11⟩
end Go.Proofs.YtdffgeoegdkiaaaGreatDoor.F

namespace Go.Proofs.YtdffgeoegdkiaaaGreatDoor.F
open Go.RowKit Go.Proofs.YtdffgeoegdkiaaaGreatDoor Go.Proofs.YtdffgeoegdkiaaaGreatDoorW.PrintWords Classical
def isWordB (l : List Int) : Bool := decide (l.length ≤ 40) && l.all isDirC
theorem isWordB_iff (l : List Int) : isWordB l = true ↔ l.length ≤ 40 ∧ ∀ c ∈ l, isDirC c = true := by simp [isWordB]
theorem one_extract (s : ByteArray) (i : Nat) (h : i < s.size) : (s.extract i (i + 1)).toList = [s[i]] := by
  rw [Lib.toList_data, Lib.extract_data]
  apply List.ext_getElem?
  intro j
  simp only [List.getElem?_take, List.getElem?_drop]
  have := getElem?_data s i h
  cases j with
  | zero => simpa using this
  | succ j => simp
theorem tiDir_ev (x : ByteArray) (c : Int) (h : bytesOf x = [c]) : Ev (fun k => spec_tiDir.f k x) (dirIx c) := by
  have hx : ∃ b : UInt8, x.toList = [b] ∧ c = b.toNat := by
    unfold bytesOf at h
    rw [Lib.toList_data]
    cases hl : x.data.toList with
    | nil => rw [hl] at h; cases h
    | cons b t =>
      rw [hl] at h
      cases t with
      | nil => simp at h; exact ⟨b, rfl, h.symm⟩
      | cons _ _ => simp at h
  obtain ⟨b, hb, hc⟩ := hx
  have hsz : x.size = 1 := by rw [← bytesOf_length, h]; rfl
  have key : ∀ (i : Nat) (d : UInt8) (z : Int), z = d.toNat → i < 4 → ((⟨#[117, 114, 100, 108]⟩ : ByteArray).extract i (i + 1)).toList = [d] → ∀ k, spec_tiDir.l0 (k + 1) x i = if c = z then some (i : Int) else spec_tiDir.l0 k x (i + 1 : Nat) := by
    intro i d z hz hi e k
    rw [spec_tiDir.l0, if_pos (by omega), show spec_tiDirs.f = some (⟨#[117, 114, 100, 108]⟩ : ByteArray) from rfl, Option.bind_some]
    have hw : wrap64 ((i : Int) + 1) = ((i + 1 : Nat) : Int) := by rw [w64 (by omega) (by omega)]; rfl
    have hsz4 : ((⟨#[117, 114, 100, 108]⟩ : ByteArray).size : Int) = 4 := rfl
    rw [if_pos (by omega), hw, if_pos (by omega), hsz4, if_pos (by omega), Int.toNat_natCast, Int.toNat_natCast, e, hb]
    by_cases hbd : b = d
    · subst hbd; rw [if_pos rfl, if_pos (by omega)]
    · rw [if_neg (by simpa using hbd), if_neg (fun h2 => hbd (UInt8.toNat_inj.1 (by omega)))]
  have hd : (⟨#[117, 114, 100, 108]⟩ : ByteArray).data.toList = [117, 114, 100, 108] := rfl
  have k0 := key 0 117 117 rfl (by omega) (by rw [Lib.toList_data, Lib.extract_data, hd]; rfl)
  have k1 := key 1 114 114 rfl (by omega) (by rw [Lib.toList_data, Lib.extract_data, hd]; rfl)
  have k2 := key 2 100 100 rfl (by omega) (by rw [Lib.toList_data, Lib.extract_data, hd]; rfl)
  have k3 := key 3 108 108 rfl (by omega) (by rw [Lib.toList_data, Lib.extract_data, hd]; rfl)
  have k4 : ∀ k, spec_tiDir.l0 (k + 1) x ((3 + 1 : Nat) : Int) = some (-1) := fun k => by rw [spec_tiDir.l0, if_neg (by omega)]
  clear key hd
  unfold spec_tiDir.f dirIx
  refine ⟨5, fun k hk => ?_⟩
  obtain ⟨k, rfl⟩ : ∃ m, k = m + 5 := ⟨k - 5, by omega⟩
  have e0 := k0 (k + 4)
  have e1 := k1 (k + 3)
  have e2 := k2 (k + 2)
  have e3 := k3 (k + 1)
  have e4 := k4 k
  simp only [Nat.zero_add, Nat.reduceAdd, Int.natCast_zero, Int.natCast_one, Int.cast_ofNat_Int] at e0 e1 e2 e3 e4
  show spec_tiDir.l0 (k + 4 + 1) x 0 = _
  rw [e0]
  by_cases h1 : c = 117
  · rw [if_pos h1, if_pos h1]
  rw [if_neg h1, if_neg h1, e1]
  by_cases h2 : c = 114
  · rw [if_pos h2, if_pos h2]
  rw [if_neg h2, if_neg h2, e2]
  by_cases h3 : c = 100
  · rw [if_pos h3, if_pos h3]
  rw [if_neg h3, if_neg h3, e3]
  by_cases h4 : c = 108
  · rw [if_pos h4, if_pos h4]
  rw [if_neg h4, if_neg h4, e4]
theorem bytes_extract (s : ByteArray) (i : Nat) (h : i < s.size) : bytesOf (s.extract i (i + 1)) = [bt s i] := by
  have h1 := one_extract s i h
  rw [Lib.toList_data] at h1
  unfold bytesOf
  rw [h1]
  simp [bt, h]
theorem tiWord_l0 (s : ByteArray) (hs : s.size ≤ 40) : ∀ (d i : Nat), i + d = s.size → Ev (fun k => spec_tiWord.l0 k s i) (decide (∀ c ∈ (bytesOf s).drop i, isDirC c = true)) := by
  intro d
  induction d with
  | zero =>
    intro i hi
    obtain rfl : i = s.size := by omega
    rw [bytesOf_all]
    refine Ev.step (f := fun _ => some true) (fun k => by rw [spec_tiWord.l0, if_neg (by omega)]) ?_
    simp only [List.not_mem_nil, false_implies, implies_true, decide_true]
    exact Ev.now _
  | succ d ih =>
    intro i hi
    have hlt : i < s.size := by omega
    have hw : wrap64 ((i : Int) + 1) = ((i + 1 : Nat) : Int) := by rw [w64 (by omega) (by omega)]; rfl
    rw [bytesOf_drop s i hlt]
    have hstep : ∀ k, spec_tiWord.l0 (k + 1) s i = (spec_tiDir.f k (s.extract i (i + 1))).bind fun t => if t < 0 then some false else spec_tiWord.l0 k s (i + 1 : Nat) := fun k => by
      rw [spec_tiWord.l0, if_pos (by omega), if_pos (by omega), hw, if_pos (by omega), if_pos (by omega), Int.toNat_natCast, Int.toNat_natCast]
    refine Ev.step hstep (Ev.bind (tiDir_ev _ _ (bytes_extract s i hlt)) ?_)
    by_cases hd : isDirC (bt s i) = true
    · have hn : ¬ dirIx (bt s i) < 0 := fun e => by rw [dirIx_neg, hd] at e; cases e
      simp only [if_neg hn]
      have := ih (i + 1) (by omega)
      simp only [List.mem_cons, forall_eq_or_imp, hd, true_and]
      exact this
    · have hn : dirIx (bt s i) < 0 := (dirIx_neg _).2 (by simpa using hd)
      simp only [if_pos hn]
      rw [decide_eq_false]
      · exact Ev.now _
      · intro h; exact hd (h _ (List.mem_cons_self ..))
theorem spec_tiWord_ev (s : ByteArray) : Ev (fun k => spec_tiWord.f k s) (isWordB (bytesOf s)) := by
  have hl := bytesOf_length s
  unfold spec_tiWord.f
  by_cases h : (s.size : Int) > 40
  · simp only [if_pos h]
    rw [show isWordB (bytesOf s) = false from by rw [Bool.eq_false_iff]; intro e; have := (isWordB_iff _).1 e; omega]
    exact Ev.now _
  · simp only [if_neg h]
    have h0 := tiWord_l0 s (by omega) s.size 0 (by omega)
    rw [show isWordB (bytesOf s) = decide (∀ c ∈ (bytesOf s).drop 0, isDirC c = true) from by
      rw [Bool.eq_iff_iff, isWordB_iff, decide_eq_true_iff, List.drop_zero]
      constructor
      · intro e; exact e.2
      · intro e; exact ⟨by omega, e⟩]
    exact h0
end Go.Proofs.YtdffgeoegdkiaaaGreatDoor.F

namespace Go.Proofs.YtdffgeoegdkiaaaGreatDoor
open Go.RowKit Go.Proofs.YtdffgeoegdkiaaaGreatDoorW.PrintWords Go.Proofs.YtdffgeoegdkiaaaGreatDoorW.PrintMore
theorem getD_at {l : List Int} {i : Nat} (h : i < l.length) : l.getD i 0 = l[i]'h := by rw [List.getD_eq_getElem?_getD, List.getElem?_eq_getElem h]; rfl
theorem flatMap_same {α β : Type} {l : List α} {f g : α → List β} (h : ∀ x ∈ l, f x = g x) : l.flatMap f = l.flatMap g := by
  induction l with
  | nil => rfl
  | cons a l ih => rw [List.flatMap_cons, List.flatMap_cons, h a List.mem_cons_self, ih fun x hx => h x (List.mem_cons_of_mem _ hx)]
def isOpenC (c : Int) : Bool := c != 35
def lo (f : Nat → Nat) (a : Int) (l : List Nat) : Int := l.foldl (fun a i => mn a (f i : Nat)) a
def hi (f : Nat → Nat) (a : Int) (l : List Nat) : Int := l.foldl (fun a i => mx a (f i : Nat)) a
structure Box (w h : Nat) (cs : List Int) (x1 y1 w2 h2 : Nat) : Prop where
  hx : x1 + w2 ≤ w
  hy : y1 + h2 ≤ h
  w1 : 1 ≤ w2
  h1 : 1 ≤ h2
  inside : ∀ x y, x < w → y < h → isOpenC (at_ w cs x y) = true → x1 ≤ x ∧ x < x1 + w2 ∧ y1 ≤ y ∧ y < y1 + h2
  left : ∃ y, y < h ∧ isOpenC (at_ w cs x1 y) = true
  right : ∃ y, y < h ∧ isOpenC (at_ w cs (x1 + w2 - 1) y) = true
  top : ∃ x, x < w ∧ isOpenC (at_ w cs x y1) = true
  below : ∃ x, x < w ∧ isOpenC (at_ w cs x (y1 + h2 - 1)) = true
theorem Box.one {w h : Nat} {cs : List Int} {x1 y1 w2 h2 x1' y1' w2' h2' : Nat} (a : Box w h cs x1 y1 w2 h2) (b : Box w h cs x1' y1' w2' h2') : x1 = x1' ∧ y1 = y1' ∧ w2 = w2' ∧ h2 = h2' := by
  have a1 := a.hx; have a2 := a.hy; have a3 := a.w1; have a4 := a.h1; have b1 := b.hx; have b2 := b.hy; have b3 := b.w1; have b4 := b.h1
  obtain ⟨y, c1, c2⟩ := a.left; have e1 := b.inside _ _ (by omega) c1 c2
  obtain ⟨y, c1, c2⟩ := a.right; have e2 := b.inside _ _ (by omega) c1 c2
  obtain ⟨x, c1, c2⟩ := a.top; have e3 := b.inside _ _ c1 (by omega) c2
  obtain ⟨x, c1, c2⟩ := a.below; have e4 := b.inside _ _ c1 (by omega) c2
  obtain ⟨y, c1, c2⟩ := b.left; have f1 := a.inside _ _ (by omega) c1 c2
  obtain ⟨y, c1, c2⟩ := b.right; have f2 := a.inside _ _ (by omega) c1 c2
  obtain ⟨x, c1, c2⟩ := b.top; have f3 := a.inside _ _ c1 (by omega) c2
  obtain ⟨x, c1, c2⟩ := b.below; have f4 := a.inside _ _ c1 (by omega) c2
  omega
end Go.Proofs.YtdffgeoegdkiaaaGreatDoor
