/- Walks and plain facts, joined out of several texts: what the row of TopGate leads to. -/
import Derived.Test.YtpigfccpogmeaaaGreatDoorPkTopGate0
import Derived.Shelf.Strings.Trim
import Derived.Shelf.Strings.SlTrimAscii
import Derived.Shelf.Small.Utf8
import Derived.Shelf.Small.Strs
import Derived.Shelf.Small.Wraps
import Derived.Shelf.Strings.Search1
import Derived.Shelf.Strings.Search2
import Derived.Shelf.Strings.Search3
import Derived.Shelf.Strings.Cut
import Derived.Shelf.Strings.Count
import Derived.Shelf.LaysM
import Derived.Shelf.Strings.Shaped
import Derived.Shelf.Strings.Prefix
import Derived.Shelf.Strings.Split
import Derived.Shelf.Strings.SplitShaped
import Derived.Shelf.Strings.Runes
import Derived.Shelf.Strings.AsciiSet
import Derived.Shelf.Unicode.DecodeSlow
import Derived.Shelf.Bytes.SlIndexSmall
import Derived.Shelf.Bytes.SlIndexAt
import Derived.Shelf.Bytes.SlSearch0
import Derived.Shelf.Bytes.SlSearch1
import Derived.Shelf.Bytes.SlSearch2
import Derived.Shelf.Bytes.SlIndexWhole
import Derived.Shelf.Bytes.Small
import Derived.Shelf.Bytes.IndexByte
import Derived.Test.YtpigfccpogmeaaaGreatDoorProg
import Derived.WalkMore
import Derived.ScopeJumps
import Derived.Lib.SlBytesConst
import Derived.Maps.OwnSet
import Derived.Maps.Ext
import Derived.Sort.KeysCollected
import Derived.DeepKeys4
import Derived.RangeFuncNested
import Derived.RangeFuncBound
import Derived.RangeFuncCalls
import Derived.RangeFuncLeaves
import Derived.Shelf.Abstract
import Derived.Shelf.AbstractIn
import Derived.Shelf.RegionOpen
import Derived.RangeFuncStops
import Derived.RangeFuncGives
import Derived.RangeFuncSeq
import Derived.Sort.MapsRangeIn
import Derived.OwnWalkIn
import Derived.TacticsInMore
import Derived.RegionIn
import Derived.LoopNIn
import Derived.LoopIn
import Derived.RangeFuncBox
import Derived.Laws.AppendOwn
import Derived.Laws.Cover1
import Derived.Sort.Walk0
import Derived.Sort.Grow
import Derived.Sort.OwnSorted
import Derived.Shelf.SlSortCmp.WholeK
import Derived.Shelf.SlIter.Nil
import Derived.Shelf.SortM.Plain
import Derived.Shelf.SortM.SortNone
import Derived.Shelf.SlSortCmp.NoneTotal
import Derived.Ground.GgzProg
import Derived.Ground.SlgmProg
import Derived.Ground.SlsfProg
import Derived.Carry
import Derived.Lib.LazyBuf
import Derived.Deep.MidRow
import Derived.StringKeys
section
namespace Go.Proofs
open Go.Shelf
def Tryz.lays160_ren : Go.Shelf.Ren := ⟨fun | 160 => 85 | 232 => 117 | 231 => 116 | 227 => 118 | 234 => 120 | 233 => 119 | 236 => 122 | 235 => 121 | 228 => 145 | 271 => 147 | 151 => 146 | 197 => 141 | 120 => 156 | 152 => 155 | 260 => 154 | 137 => 115 | 119 => 158 | 224 => 113 | 225 => 138 | 217 => 137 | 266 => 152 | n => n, fun | 9 => 9 | 4 => 4 | 3 => 3 | 5 => 5 | 117 => 169 | 116 => 168 | 0 => 0 | 124 => 172 | 21 => 21 | 105 => 185 | 46 => 134 | 119 => 198 | 139 => 201 | 138 => 200 | n => n, fun | 3 => 2 | 4 => 3 | n => n⟩
theorem Tryz.lays160 : Go.Proofs.Lays.n160 Tryz.prog Tryz.lays160_ren := {
  mixed := by kernel_rfl
  f119 := Tryz.func158.trans (congrArg some zQ)
  f120 := Tryz.func156.trans (congrArg some zQ)
  f137 := Tryz.func115.trans (congrArg some zQ)
  f151 := Tryz.func146.trans (congrArg some zQ)
  f152 := Tryz.func155.trans (congrArg some zQ)
  f160 := Tryz.func85.trans (congrArg some zQ)
  f197 := Tryz.func141.trans (congrArg some zQ)
  f217 := Tryz.func137.trans (congrArg some zQ)
  f224 := Tryz.func113.trans (congrArg some zQ)
  f225 := Tryz.func138.trans (congrArg some zQ)
  f227 := Tryz.func118.trans (congrArg some zQ)
  f228 := Tryz.func145.trans (congrArg some zQ)
  f231 := Tryz.func116.trans (congrArg some zQ)
  f232 := Tryz.func117.trans (congrArg some zQ)
  f233 := Tryz.func119.trans (congrArg some zQ)
  f234 := Tryz.func120.trans (congrArg some zQ)
  f235 := Tryz.func121.trans (congrArg some zQ)
  f236 := Tryz.func122.trans (congrArg some zQ)
  f260 := Tryz.func154.trans (congrArg some zQ)
  f266 := Tryz.func152.trans (congrArg some zQ)
  f271 := Tryz.func147.trans (congrArg some zQ)
  t0 := Tryz.underlying0
  a0 := Tryz.isAgg0
  z0 := Tryz.sizeOf0
  v0 := Tryz.zeroValue0
  t3 := Tryz.underlying3
  a3 := Tryz.isAgg3
  z3 := Tryz.sizeOf3
  v3 := Tryz.zeroValue3
  t4 := Tryz.underlying4
  a4 := Tryz.isAgg4
  z4 := Tryz.sizeOf4
  v4 := Tryz.zeroValue4
  t5 := Tryz.underlying5
  a5 := Tryz.isAgg5
  z5 := Tryz.sizeOf5
  v5 := Tryz.zeroValue5
  t9 := Tryz.underlying9
  a9 := Tryz.isAgg9
  z9 := Tryz.sizeOf9
  v9 := Tryz.zeroValue9
  t21 := Tryz.underlying21
  a21 := Tryz.isAgg21
  z21 := Tryz.sizeOf21
  v21 := Tryz.zeroValue21
  t46 := Tryz.underlying134
  a46 := Tryz.isAgg134
  z46 := Tryz.sizeOf134
  v46 := Tryz.zeroValue134
  t105 := Tryz.underlying185
  a105 := Tryz.isAgg185
  z105 := Tryz.sizeOf185
  v105 := Tryz.zeroValue185
  t116 := Tryz.underlying168
  a116 := Tryz.isAgg168
  z116 := Tryz.sizeOf168
  t117 := Tryz.underlying169
  a117 := Tryz.isAgg169
  z117 := Tryz.sizeOf169
  v117 := Tryz.zeroValue169
  t119 := Tryz.underlying198
  a119 := Tryz.isAgg198
  z119 := Tryz.sizeOf198
  t124 := Tryz.underlying172
  a124 := Tryz.isAgg172
  z124 := Tryz.sizeOf172
  v124 := Tryz.zeroValue172
  t138 := Tryz.underlying200
  a138 := Tryz.isAgg200
  z138 := Tryz.sizeOf200
  v138 := Tryz.zeroValue200
  t139 := Tryz.underlying201
  a139 := Tryz.isAgg201
  z139 := Tryz.sizeOf201
  v139 := Tryz.zeroValue201
  g3 := by kernel_rfl
  g4 := by kernel_rfl }
def Tryz.lays137_ren : Go.Shelf.Ren := ⟨fun | 137 => 115 | 217 => 137 | 266 => 152 | n => n, fun | 9 => 9 | 5 => 5 | 3 => 3 | n => n, fun | n => n⟩
theorem Tryz.lays137 : Go.Proofs.Lays.n137 Tryz.prog Tryz.lays137_ren := {
  mixed := by kernel_rfl
  f137 := Tryz.func115.trans (congrArg some zQ)
  f217 := Tryz.func137.trans (congrArg some zQ)
  f266 := Tryz.func152.trans (congrArg some zQ)
  t3 := Tryz.underlying3
  a3 := Tryz.isAgg3
  z3 := Tryz.sizeOf3
  v3 := Tryz.zeroValue3
  t5 := Tryz.underlying5
  a5 := Tryz.isAgg5
  z5 := Tryz.sizeOf5
  v5 := Tryz.zeroValue5
  t9 := Tryz.underlying9
  a9 := Tryz.isAgg9
  z9 := Tryz.sizeOf9
  v9 := Tryz.zeroValue9 }
open Go.RowKit in
theorem Tryz.strings_IndexByte (s : ByteArray) (c : Int) (w : World) :
    Calls Tryz.prog 115 #[.string s, .int .u8 c] w fun e w' => e = .returned (.int .i64 (Lib.indexByte s.data.toList c.toNat.toUInt8)) ∧ w' = w := Any.strings_IndexByte Tryz.lays137 s c w
def Tryz.lays103_ren : Go.Shelf.Ren := ⟨fun | 103 => 60 | 210 => 86 | 206 => 80 | n => n, fun | 9 => 9 | 4 => 4 | 24 => 90 | 3 => 3 | n => n, fun | n => n⟩
theorem Tryz.lays103 : Go.Proofs.Lays.n103 Tryz.prog Tryz.lays103_ren := {
  mixed := by kernel_rfl
  f103 := Tryz.func60.trans (congrArg some zQ)
  f206 := Tryz.func80.trans (congrArg some zQ)
  f210 := Tryz.func86.trans (congrArg some zQ)
  t3 := Tryz.underlying3
  a3 := Tryz.isAgg3
  z3 := Tryz.sizeOf3
  v3 := Tryz.zeroValue3
  t4 := Tryz.underlying4
  a4 := Tryz.isAgg4
  z4 := Tryz.sizeOf4
  v4 := Tryz.zeroValue4
  t9 := Tryz.underlying9
  a9 := Tryz.isAgg9
  z9 := Tryz.sizeOf9
  v9 := Tryz.zeroValue9
  t24 := Tryz.underlying90
  a24 := Tryz.isAgg90
  z24 := Tryz.sizeOf90
  v24 := Tryz.zeroValue90 }
open Go.RowKit in
theorem Tryz.strings_CutPrefix (s p : ByteArray) (w : World) :
    Calls Tryz.prog 60 #[.string s, .string p] w fun e w' => e = .returned (.tuple #[.string ⟨(Lib.trimPrefix s.data.toList p.data.toList).toArray⟩, .bool (Lib.hasPrefix s.data.toList p.data.toList)]) ∧ w' = w := Any.strings_CutPrefix Tryz.lays103 s p w
def Tryz.lays219_ren : Go.Shelf.Ren := ⟨fun | 219 => 107 | 217 => 137 | 225 => 138 | 224 => 113 | 267 => 139 | 266 => 152 | 314 => 153 | n => n, fun | 9 => 9 | 3 => 3 | 4 => 4 | 5 => 5 | 46 => 134 | 146 => 187 | 51 => 157 | n => n, fun | 1 => 1 | n => n⟩
theorem Tryz.lays219 : Go.Proofs.Lays.n219 Tryz.prog Tryz.lays219_ren := {
  mixed := by kernel_rfl
  f217 := Tryz.func137.trans (congrArg some zQ)
  f219 := Tryz.func107.trans (congrArg some zQ)
  f224 := Tryz.func113.trans (congrArg some zQ)
  f225 := Tryz.func138.trans (congrArg some zQ)
  f266 := Tryz.func152.trans (congrArg some zQ)
  f267 := Tryz.func139.trans (congrArg some zQ)
  f314 := Tryz.func153.trans (congrArg some zQ)
  t3 := Tryz.underlying3
  a3 := Tryz.isAgg3
  z3 := Tryz.sizeOf3
  v3 := Tryz.zeroValue3
  t4 := Tryz.underlying4
  a4 := Tryz.isAgg4
  z4 := Tryz.sizeOf4
  v4 := Tryz.zeroValue4
  t5 := Tryz.underlying5
  a5 := Tryz.isAgg5
  z5 := Tryz.sizeOf5
  v5 := Tryz.zeroValue5
  t9 := Tryz.underlying9
  a9 := Tryz.isAgg9
  z9 := Tryz.sizeOf9
  v9 := Tryz.zeroValue9
  t46 := Tryz.underlying134
  a46 := Tryz.isAgg134
  z46 := Tryz.sizeOf134
  v46 := Tryz.zeroValue134
  t51 := Tryz.underlying157
  a51 := Tryz.isAgg157
  z51 := Tryz.sizeOf157
  v51 := Tryz.zeroValue157
  t146 := Tryz.underlying187
  a146 := Tryz.isAgg187
  z146 := Tryz.sizeOf187
  v146 := Tryz.zeroValue187
  g1 := by kernel_rfl }
open Go.RowKit Go.Lib in
theorem Tryz.stringslite_Index (s sub : ByteArray) (m : Int) (w : World) (hs : s.size < 4294967281) (hm : w.cell? ⟨1, 0, none⟩ = some (.int .i64 m)) :
    Calls Tryz.prog 107 #[.string s, .string sub] w fun e w' => e = .returned (.int .i64 (Lib.index s.data.toList sub.data.toList)) ∧ w' = w := Any.stringslite_Index Tryz.lays219 s sub m w hs hm
def Tryz.lays143_ren : Go.Shelf.Ren := ⟨fun | 143 => 79 | 219 => 107 | 217 => 137 | 225 => 138 | 224 => 113 | 267 => 139 | 266 => 152 | 314 => 153 | n => n, fun | 9 => 9 | 3 => 3 | 4 => 4 | 5 => 5 | 46 => 134 | 146 => 187 | 51 => 157 | n => n, fun | 1 => 1 | n => n⟩
theorem Tryz.lays143 : Go.Proofs.Lays.n143 Tryz.prog Tryz.lays143_ren := {
  mixed := by kernel_rfl
  f143 := Tryz.func79.trans (congrArg some zQ)
  f217 := Tryz.func137.trans (congrArg some zQ)
  f219 := Tryz.func107.trans (congrArg some zQ)
  f224 := Tryz.func113.trans (congrArg some zQ)
  f225 := Tryz.func138.trans (congrArg some zQ)
  f266 := Tryz.func152.trans (congrArg some zQ)
  f267 := Tryz.func139.trans (congrArg some zQ)
  f314 := Tryz.func153.trans (congrArg some zQ)
  t3 := Tryz.underlying3
  a3 := Tryz.isAgg3
  z3 := Tryz.sizeOf3
  v3 := Tryz.zeroValue3
  t4 := Tryz.underlying4
  a4 := Tryz.isAgg4
  z4 := Tryz.sizeOf4
  v4 := Tryz.zeroValue4
  t5 := Tryz.underlying5
  a5 := Tryz.isAgg5
  z5 := Tryz.sizeOf5
  v5 := Tryz.zeroValue5
  t9 := Tryz.underlying9
  a9 := Tryz.isAgg9
  z9 := Tryz.sizeOf9
  v9 := Tryz.zeroValue9
  t46 := Tryz.underlying134
  a46 := Tryz.isAgg134
  z46 := Tryz.sizeOf134
  v46 := Tryz.zeroValue134
  t51 := Tryz.underlying157
  a51 := Tryz.isAgg157
  z51 := Tryz.sizeOf157
  v51 := Tryz.zeroValue157
  t146 := Tryz.underlying187
  a146 := Tryz.isAgg187
  z146 := Tryz.sizeOf187
  v146 := Tryz.zeroValue187
  g1 := by kernel_rfl }
open Go.RowKit Go.Lib in
theorem Tryz.strings_Index (s sub : ByteArray) (m : Int) (w : World) (hs : s.size < 4294967281) (hm : w.cell? ⟨1, 0, none⟩ = some (.int .i64 m)) :
    Calls Tryz.prog 79 #[.string s, .string sub] w fun e w' => e = .returned (.int .i64 (Lib.index s.data.toList sub.data.toList)) ∧ w' = w := Any.strings_Index Tryz.lays143 s sub m w hs hm
def Tryz.lays144_ren : Go.Shelf.Ren := ⟨fun | 144 => 51 | 143 => 79 | 219 => 107 | 217 => 137 | 225 => 138 | 224 => 113 | 267 => 139 | 266 => 152 | 314 => 153 | n => n, fun | 9 => 9 | 4 => 4 | 3 => 3 | 5 => 5 | 46 => 134 | 146 => 187 | 51 => 157 | n => n, fun | 1 => 1 | n => n⟩
theorem Tryz.lays144 : Go.Proofs.Lays.n144 Tryz.prog Tryz.lays144_ren := {
  mixed := by kernel_rfl
  f143 := Tryz.func79.trans (congrArg some zQ)
  f144 := Tryz.func51.trans (congrArg some zQ)
  f217 := Tryz.func137.trans (congrArg some zQ)
  f219 := Tryz.func107.trans (congrArg some zQ)
  f224 := Tryz.func113.trans (congrArg some zQ)
  f225 := Tryz.func138.trans (congrArg some zQ)
  f266 := Tryz.func152.trans (congrArg some zQ)
  f267 := Tryz.func139.trans (congrArg some zQ)
  f314 := Tryz.func153.trans (congrArg some zQ)
  t3 := Tryz.underlying3
  a3 := Tryz.isAgg3
  z3 := Tryz.sizeOf3
  v3 := Tryz.zeroValue3
  t4 := Tryz.underlying4
  a4 := Tryz.isAgg4
  z4 := Tryz.sizeOf4
  v4 := Tryz.zeroValue4
  t5 := Tryz.underlying5
  a5 := Tryz.isAgg5
  z5 := Tryz.sizeOf5
  v5 := Tryz.zeroValue5
  t9 := Tryz.underlying9
  a9 := Tryz.isAgg9
  z9 := Tryz.sizeOf9
  v9 := Tryz.zeroValue9
  t46 := Tryz.underlying134
  a46 := Tryz.isAgg134
  z46 := Tryz.sizeOf134
  v46 := Tryz.zeroValue134
  t51 := Tryz.underlying157
  a51 := Tryz.isAgg157
  z51 := Tryz.sizeOf157
  v51 := Tryz.zeroValue157
  t146 := Tryz.underlying187
  a146 := Tryz.isAgg187
  z146 := Tryz.sizeOf187
  v146 := Tryz.zeroValue187
  g1 := by kernel_rfl }
open Go.RowKit Go.Lib in
theorem Tryz.strings_Contains_one (s : ByteArray) (c : UInt8) (w : World) :
    Calls Tryz.prog 51 #[.string s, .string ⟨#[c]⟩] w fun e w' => e = .returned (.bool (decide (0 ≤ Lib.indexByte s.data.toList c))) ∧ w' = w := Any.strings_Contains_one Tryz.lays144 s c w
open Go.RowKit Go.Lib in
theorem Tryz.strings_Contains (s sub : ByteArray) (m : Int) (w : World) (hs : s.size < 4294967281) (hm : w.cell? ⟨1, 0, none⟩ = some (.int .i64 m)) :
    Calls Tryz.prog 51 #[.string s, .string sub] w fun e w' => e = .returned (.bool (Lib.contains s.data.toList sub.data.toList)) ∧ w' = w := Any.strings_Contains Tryz.lays144 s sub m w hs hm
def Tryz.lays220_ren : Go.Shelf.Ren := ⟨fun | 220 => 81 | 219 => 107 | 217 => 137 | 225 => 138 | 224 => 113 | 267 => 139 | 266 => 152 | 314 => 153 | n => n, fun | 9 => 9 | 4 => 4 | 3 => 3 | 5 => 5 | 46 => 134 | 146 => 187 | 51 => 157 | n => n, fun | 1 => 1 | n => n⟩
theorem Tryz.lays220 : Go.Proofs.Lays.n220 Tryz.prog Tryz.lays220_ren := {
  mixed := by kernel_rfl
  f217 := Tryz.func137.trans (congrArg some zQ)
  f219 := Tryz.func107.trans (congrArg some zQ)
  f220 := Tryz.func81.trans (congrArg some zQ)
  f224 := Tryz.func113.trans (congrArg some zQ)
  f225 := Tryz.func138.trans (congrArg some zQ)
  f266 := Tryz.func152.trans (congrArg some zQ)
  f267 := Tryz.func139.trans (congrArg some zQ)
  f314 := Tryz.func153.trans (congrArg some zQ)
  t3 := Tryz.underlying3
  a3 := Tryz.isAgg3
  z3 := Tryz.sizeOf3
  v3 := Tryz.zeroValue3
  t4 := Tryz.underlying4
  a4 := Tryz.isAgg4
  z4 := Tryz.sizeOf4
  v4 := Tryz.zeroValue4
  t5 := Tryz.underlying5
  a5 := Tryz.isAgg5
  z5 := Tryz.sizeOf5
  v5 := Tryz.zeroValue5
  t9 := Tryz.underlying9
  a9 := Tryz.isAgg9
  z9 := Tryz.sizeOf9
  v9 := Tryz.zeroValue9
  t46 := Tryz.underlying134
  a46 := Tryz.isAgg134
  z46 := Tryz.sizeOf134
  v46 := Tryz.zeroValue134
  t51 := Tryz.underlying157
  a51 := Tryz.isAgg157
  z51 := Tryz.sizeOf157
  v51 := Tryz.zeroValue157
  t146 := Tryz.underlying187
  a146 := Tryz.isAgg187
  z146 := Tryz.sizeOf187
  v146 := Tryz.zeroValue187
  g1 := by kernel_rfl }
open Go.RowKit Go.Lib in
theorem Tryz.stringslite_Cut (s sep : ByteArray) (m : Int) (w : World) (hs : s.size < 4294967281) (hm : w.cell? ⟨1, 0, none⟩ = some (.int .i64 m)) :
    Calls Tryz.prog 81 #[.string s, .string sep] w fun e w' => e = .returned (.tuple #[.string ⟨(Lib.cut s.data.toList sep.data.toList).1.toArray⟩, .string ⟨(Lib.cut s.data.toList sep.data.toList).2.1.toArray⟩, .bool (Lib.cut s.data.toList sep.data.toList).2.2]) ∧ ∃ n, w' = w.drewN n := Any.stringslite_Cut Tryz.lays220 s sep m w hs hm
def Tryz.lays145_ren : Go.Shelf.Ren := ⟨fun | 145 => 55 | 220 => 81 | 219 => 107 | 217 => 137 | 225 => 138 | 224 => 113 | 267 => 139 | 266 => 152 | 314 => 153 | n => n, fun | 9 => 9 | 4 => 4 | 59 => 117 | 3 => 3 | 5 => 5 | 46 => 134 | 146 => 187 | 51 => 157 | n => n, fun | 1 => 1 | n => n⟩
theorem Tryz.lays145 : Go.Proofs.Lays.n145 Tryz.prog Tryz.lays145_ren := {
  mixed := by kernel_rfl
  f145 := Tryz.func55.trans (congrArg some zQ)
  f217 := Tryz.func137.trans (congrArg some zQ)
  f219 := Tryz.func107.trans (congrArg some zQ)
  f220 := Tryz.func81.trans (congrArg some zQ)
  f224 := Tryz.func113.trans (congrArg some zQ)
  f225 := Tryz.func138.trans (congrArg some zQ)
  f266 := Tryz.func152.trans (congrArg some zQ)
  f267 := Tryz.func139.trans (congrArg some zQ)
  f314 := Tryz.func153.trans (congrArg some zQ)
  t3 := Tryz.underlying3
  a3 := Tryz.isAgg3
  z3 := Tryz.sizeOf3
  v3 := Tryz.zeroValue3
  t4 := Tryz.underlying4
  a4 := Tryz.isAgg4
  z4 := Tryz.sizeOf4
  v4 := Tryz.zeroValue4
  t5 := Tryz.underlying5
  a5 := Tryz.isAgg5
  z5 := Tryz.sizeOf5
  v5 := Tryz.zeroValue5
  t9 := Tryz.underlying9
  a9 := Tryz.isAgg9
  z9 := Tryz.sizeOf9
  v9 := Tryz.zeroValue9
  t46 := Tryz.underlying134
  a46 := Tryz.isAgg134
  z46 := Tryz.sizeOf134
  v46 := Tryz.zeroValue134
  t51 := Tryz.underlying157
  a51 := Tryz.isAgg157
  z51 := Tryz.sizeOf157
  v51 := Tryz.zeroValue157
  t59 := Tryz.underlying117
  a59 := Tryz.isAgg117
  z59 := Tryz.sizeOf117
  v59 := Tryz.zeroValue117
  t146 := Tryz.underlying187
  a146 := Tryz.isAgg187
  z146 := Tryz.sizeOf187
  v146 := Tryz.zeroValue187
  g1 := by kernel_rfl }
open Go.RowKit Go.Lib in
theorem Tryz.strings_Cut (s sep : ByteArray) (m : Int) (w : World) (hs : s.size < 4294967281) (hm : w.cell? ⟨1, 0, none⟩ = some (.int .i64 m)) :
    Calls Tryz.prog 55 #[.string s, .string sep] w fun e w' => e = .returned (.tuple #[.string ⟨(Lib.cut s.data.toList sep.data.toList).1.toArray⟩, .string ⟨(Lib.cut s.data.toList sep.data.toList).2.1.toArray⟩, .bool (Lib.cut s.data.toList sep.data.toList).2.2]) ∧ ∃ n, w' = w.drewN n := Any.strings_Cut Tryz.lays145 s sep m w hs hm
def Tryz.lays138_ren : Go.Shelf.Ren := ⟨fun | 138 => 109 | 195 => 140 | 218 => 142 | 143 => 79 | 219 => 107 | 217 => 137 | 225 => 138 | 224 => 113 | 267 => 139 | 266 => 152 | 314 => 153 | n => n, fun | 9 => 9 | 3 => 3 | 4 => 4 | 5 => 5 | 0 => 0 | 46 => 134 | 146 => 187 | 51 => 157 | n => n, fun | 1 => 1 | n => n⟩
theorem Tryz.lays138 : Go.Proofs.Lays.n138 Tryz.prog Tryz.lays138_ren := {
  mixed := by kernel_rfl
  f138 := Tryz.func109.trans (congrArg some zQ)
  f143 := Tryz.func79.trans (congrArg some zQ)
  f195 := Tryz.func140.trans (congrArg some zQ)
  f217 := Tryz.func137.trans (congrArg some zQ)
  f218 := Tryz.func142.trans (congrArg some zQ)
  f219 := Tryz.func107.trans (congrArg some zQ)
  f224 := Tryz.func113.trans (congrArg some zQ)
  f225 := Tryz.func138.trans (congrArg some zQ)
  f266 := Tryz.func152.trans (congrArg some zQ)
  f267 := Tryz.func139.trans (congrArg some zQ)
  f314 := Tryz.func153.trans (congrArg some zQ)
  t0 := Tryz.underlying0
  a0 := Tryz.isAgg0
  z0 := Tryz.sizeOf0
  v0 := Tryz.zeroValue0
  t3 := Tryz.underlying3
  a3 := Tryz.isAgg3
  z3 := Tryz.sizeOf3
  v3 := Tryz.zeroValue3
  t4 := Tryz.underlying4
  a4 := Tryz.isAgg4
  z4 := Tryz.sizeOf4
  v4 := Tryz.zeroValue4
  t5 := Tryz.underlying5
  a5 := Tryz.isAgg5
  z5 := Tryz.sizeOf5
  v5 := Tryz.zeroValue5
  t9 := Tryz.underlying9
  a9 := Tryz.isAgg9
  z9 := Tryz.sizeOf9
  v9 := Tryz.zeroValue9
  t46 := Tryz.underlying134
  a46 := Tryz.isAgg134
  z46 := Tryz.sizeOf134
  v46 := Tryz.zeroValue134
  t51 := Tryz.underlying157
  a51 := Tryz.isAgg157
  z51 := Tryz.sizeOf157
  v51 := Tryz.zeroValue157
  t146 := Tryz.underlying187
  a146 := Tryz.isAgg187
  z146 := Tryz.sizeOf187
  v146 := Tryz.zeroValue187
  g1 := by kernel_rfl }
open Go.RowKit Go.Lib in
theorem Tryz.strings_Count (s sub : ByteArray) (m : Int) (w : World) (hs : s.size < 4294967281) (hm : w.cell? ⟨1, 0, none⟩ = some (.int .i64 m)) (h2 : 2 ≤ sub.size) :
    Calls Tryz.prog 109 #[.string s, .string sub] w fun e w' => e = .returned (.int .i64 (Lib.countB s sub)) ∧ w' = w := Any.strings_Count Tryz.lays138 s sub m w hs hm h2
def Tryz.laysM143_ren : Go.Shelf.Ren := ⟨fun | 143 => 79 | 219 => 107 | 217 => 137 | 225 => 138 | 224 => 113 | 267 => 139 | 266 => 152 | 314 => 153 | n => n, fun | 9 => 9 | 3 => 3 | 4 => 4 | 5 => 5 | 46 => 134 | 146 => 187 | 51 => 157 | n => n, fun | 1 => 1 | n => n⟩
theorem Tryz.laysM143 : Go.Proofs.LaysM.n143 Tryz.prog Tryz.laysM143_ren := {
  mixed := by kernel_rfl
  f143 := Tryz.func79.trans (congrArg some zQ)
  f217 := Tryz.func137.trans (congrArg some zQ)
  f219 := Tryz.func107.trans (congrArg some zQ)
  f224 := Tryz.func113.trans (congrArg some zQ)
  f225 := Tryz.func138.trans (congrArg some zQ)
  f266 := Tryz.func152.trans (congrArg some zQ)
  f267 := Tryz.func139.trans (congrArg some zQ)
  f314 := Tryz.func153.trans (congrArg some zQ)
  t3 := Tryz.underlying3
  a3 := Tryz.isAgg3
  z3 := Tryz.sizeOf3
  v3 := Tryz.zeroValue3
  t4 := Tryz.underlying4
  a4 := Tryz.isAgg4
  z4 := Tryz.sizeOf4
  v4 := Tryz.zeroValue4
  t5 := Tryz.underlying5
  a5 := Tryz.isAgg5
  z5 := Tryz.sizeOf5
  v5 := Tryz.zeroValue5
  t9 := Tryz.underlying9
  a9 := Tryz.isAgg9
  z9 := Tryz.sizeOf9
  v9 := Tryz.zeroValue9
  t46 := Tryz.underlying134
  a46 := Tryz.isAgg134
  z46 := Tryz.sizeOf134
  v46 := Tryz.zeroValue134
  t51 := Tryz.underlying157
  a51 := Tryz.isAgg157
  z51 := Tryz.sizeOf157
  v51 := Tryz.zeroValue157
  t146 := Tryz.underlying187
  a146 := Tryz.isAgg187
  z146 := Tryz.sizeOf187
  v146 := Tryz.zeroValue187
  g1 := by kernel_rfl
  i3 := by kernel_rfl
  i4 := by kernel_rfl
  i5 := by kernel_rfl
  i9 := by kernel_rfl
  i46 := by kernel_rfl
  i51 := by kernel_rfl
  i146 := by kernel_rfl
  m1 := by kernel_rfl
  s1_3 := fun w h => Go.Proofs.cell_of_shapedOpen_int (zero := #[.int .i64 0]) (t := 3) h (zd zQ) zQ rfl zQ zQ Tryz.underlying3 }
def Tryz.lays99_ren : Go.Shelf.Ren := ⟨fun | 99 => 52 | 206 => 80 | n => n, fun | 9 => 9 | 4 => 4 | 3 => 3 | n => n, fun | n => n⟩
theorem Tryz.lays99 : Go.Proofs.Lays.n99 Tryz.prog Tryz.lays99_ren := {
  mixed := by kernel_rfl
  f99 := Tryz.func52.trans (congrArg some zQ)
  f206 := Tryz.func80.trans (congrArg some zQ)
  t3 := Tryz.underlying3
  a3 := Tryz.isAgg3
  z3 := Tryz.sizeOf3
  v3 := Tryz.zeroValue3
  t4 := Tryz.underlying4
  a4 := Tryz.isAgg4
  z4 := Tryz.sizeOf4
  v4 := Tryz.zeroValue4
  t9 := Tryz.underlying9
  a9 := Tryz.isAgg9
  z9 := Tryz.sizeOf9
  v9 := Tryz.zeroValue9 }
open Go.RowKit Go.Lib in
theorem Tryz.strings_HasPrefix (s p : ByteArray) (w : World) :
    Calls Tryz.prog 52 #[.string s, .string p] w fun e w' => e = .returned (.bool (Lib.hasPrefix s.data.toList p.data.toList)) ∧ w' = w := Any.strings_HasPrefix Tryz.lays99 s p w
def Tryz.lays207_ren : Go.Shelf.Ren := ⟨fun | 207 => 87 | n => n, fun | 9 => 9 | 4 => 4 | 3 => 3 | n => n, fun | n => n⟩
theorem Tryz.lays207 : Go.Proofs.Lays.n207 Tryz.prog Tryz.lays207_ren := {
  mixed := by kernel_rfl
  f207 := Tryz.func87.trans (congrArg some zQ)
  t3 := Tryz.underlying3
  a3 := Tryz.isAgg3
  z3 := Tryz.sizeOf3
  v3 := Tryz.zeroValue3
  t4 := Tryz.underlying4
  a4 := Tryz.isAgg4
  z4 := Tryz.sizeOf4
  v4 := Tryz.zeroValue4
  t9 := Tryz.underlying9
  a9 := Tryz.isAgg9
  z9 := Tryz.sizeOf9
  v9 := Tryz.zeroValue9 }
open Go.RowKit Go.Lib in
theorem Tryz.stringslite_HasSuffix (s p : ByteArray) (w : World) (hs : s.size ≤ 9223372036854775807) :
    Calls Tryz.prog 87 #[.string s, .string p] w fun e w' => e = .returned (.bool (Lib.hasSuffix s.data.toList p.data.toList)) ∧ w' = w := Any.stringslite_HasSuffix Tryz.lays207 s p w hs
def Tryz.lays100_ren : Go.Shelf.Ren := ⟨fun | 100 => 61 | 207 => 87 | n => n, fun | 9 => 9 | 4 => 4 | 3 => 3 | n => n, fun | n => n⟩
theorem Tryz.lays100 : Go.Proofs.Lays.n100 Tryz.prog Tryz.lays100_ren := {
  mixed := by kernel_rfl
  f100 := Tryz.func61.trans (congrArg some zQ)
  f207 := Tryz.func87.trans (congrArg some zQ)
  t3 := Tryz.underlying3
  a3 := Tryz.isAgg3
  z3 := Tryz.sizeOf3
  v3 := Tryz.zeroValue3
  t4 := Tryz.underlying4
  a4 := Tryz.isAgg4
  z4 := Tryz.sizeOf4
  v4 := Tryz.zeroValue4
  t9 := Tryz.underlying9
  a9 := Tryz.isAgg9
  z9 := Tryz.sizeOf9
  v9 := Tryz.zeroValue9 }
open Go.RowKit Go.Lib in
theorem Tryz.strings_HasSuffix (s p : ByteArray) (w : World) (hs : s.size ≤ 9223372036854775807) :
    Calls Tryz.prog 61 #[.string s, .string p] w fun e w' => e = .returned (.bool (Lib.hasSuffix s.data.toList p.data.toList)) ∧ w' = w := Any.strings_HasSuffix Tryz.lays100 s p w hs
def Tryz.lays221_ren : Go.Shelf.Ren := ⟨fun | 221 => 82 | 268 => 108 | 138 => 109 | 143 => 79 | 195 => 140 | 197 => 141 | 218 => 142 | 219 => 107 | 260 => 154 | 217 => 137 | 225 => 138 | 224 => 113 | 267 => 139 | 266 => 152 | 314 => 153 | n => n, fun | 9 => 9 | 3 => 3 | 31 => 75 | 4 => 4 | 0 => 0 | 105 => 185 | 21 => 21 | 5 => 5 | 46 => 134 | 119 => 198 | 139 => 201 | 138 => 200 | 146 => 187 | 51 => 157 | n => n, fun | 1 => 1 | 3 => 2 | 4 => 3 | n => n⟩
theorem Tryz.lays221 : Go.Proofs.Lays.n221 Tryz.prog Tryz.lays221_ren := {
  mixed := by kernel_rfl
  f138 := Tryz.func109.trans (congrArg some zQ)
  f143 := Tryz.func79.trans (congrArg some zQ)
  f195 := Tryz.func140.trans (congrArg some zQ)
  f197 := Tryz.func141.trans (congrArg some zQ)
  f217 := Tryz.func137.trans (congrArg some zQ)
  f218 := Tryz.func142.trans (congrArg some zQ)
  f219 := Tryz.func107.trans (congrArg some zQ)
  f221 := Tryz.func82.trans (congrArg some zQ)
  f224 := Tryz.func113.trans (congrArg some zQ)
  f225 := Tryz.func138.trans (congrArg some zQ)
  f260 := Tryz.func154.trans (congrArg some zQ)
  f266 := Tryz.func152.trans (congrArg some zQ)
  f267 := Tryz.func139.trans (congrArg some zQ)
  f268 := Tryz.func108.trans (congrArg some zQ)
  f314 := Tryz.func153.trans (congrArg some zQ)
  t0 := Tryz.underlying0
  a0 := Tryz.isAgg0
  z0 := Tryz.sizeOf0
  v0 := Tryz.zeroValue0
  t3 := Tryz.underlying3
  a3 := Tryz.isAgg3
  z3 := Tryz.sizeOf3
  v3 := Tryz.zeroValue3
  t4 := Tryz.underlying4
  a4 := Tryz.isAgg4
  z4 := Tryz.sizeOf4
  v4 := Tryz.zeroValue4
  t5 := Tryz.underlying5
  a5 := Tryz.isAgg5
  z5 := Tryz.sizeOf5
  v5 := Tryz.zeroValue5
  t9 := Tryz.underlying9
  a9 := Tryz.isAgg9
  z9 := Tryz.sizeOf9
  v9 := Tryz.zeroValue9
  t21 := Tryz.underlying21
  a21 := Tryz.isAgg21
  z21 := Tryz.sizeOf21
  v21 := Tryz.zeroValue21
  t31 := Tryz.underlying75
  a31 := Tryz.isAgg75
  z31 := Tryz.sizeOf75
  v31 := Tryz.zeroValue75
  t46 := Tryz.underlying134
  a46 := Tryz.isAgg134
  z46 := Tryz.sizeOf134
  v46 := Tryz.zeroValue134
  t51 := Tryz.underlying157
  a51 := Tryz.isAgg157
  z51 := Tryz.sizeOf157
  v51 := Tryz.zeroValue157
  t105 := Tryz.underlying185
  a105 := Tryz.isAgg185
  z105 := Tryz.sizeOf185
  v105 := Tryz.zeroValue185
  t119 := Tryz.underlying198
  a119 := Tryz.isAgg198
  z119 := Tryz.sizeOf198
  t138 := Tryz.underlying200
  a138 := Tryz.isAgg200
  z138 := Tryz.sizeOf200
  v138 := Tryz.zeroValue200
  t139 := Tryz.underlying201
  a139 := Tryz.isAgg201
  z139 := Tryz.sizeOf201
  v139 := Tryz.zeroValue201
  t146 := Tryz.underlying187
  a146 := Tryz.isAgg187
  z146 := Tryz.sizeOf187
  v146 := Tryz.zeroValue187
  g1 := by kernel_rfl
  g3 := by kernel_rfl
  g4 := by kernel_rfl }
open Go.RowKit Go.Lib in
theorem Tryz.strings_genSplit (s sep : ByteArray) (sv : Nat) (n : Int) (N : Nat) (m : Int) (w : World) (hs : s.size < 4294967281) (hm : w.cell? ⟨1, 0, none⟩ = some (.int .i64 m)) (h1 : 1 ≤ sep.size) (hsv : sv ≤ sep.size) (hn0 : n ≠ 0) (hn63 : n ≤ 9223372036854775807) (hN : (N : Int) = min (if n < 0 then (Lib.countB s sep : Int) + 1 else n) ((s.size : Int) + 1)) :
    Calls Tryz.prog 82 #[.string s, .string sep, .int .i64 sv, .int .i64 n] w fun e w' =>
      e = .returned (.slice (some ⟨w.heap.size, 0, none⟩) (Lib.splitB sep sv (N - 1) s).length N) ∧ w' = w.alloc (.cells (Lib.cellsOf (Lib.splitB sep sv (N - 1) s) N) 9) := Any.strings_genSplit Tryz.lays221 zQ s sep sv n N m w hs hm h1 hsv hn0 hn63 hN
def Tryz.lays146_ren : Go.Shelf.Ren := ⟨fun | 146 => 56 | 221 => 82 | 268 => 108 | 138 => 109 | 143 => 79 | 195 => 140 | 197 => 141 | 218 => 142 | 219 => 107 | 260 => 154 | 217 => 137 | 225 => 138 | 224 => 113 | 267 => 139 | 266 => 152 | 314 => 153 | n => n, fun | 9 => 9 | 31 => 75 | 3 => 3 | 4 => 4 | 0 => 0 | 105 => 185 | 21 => 21 | 5 => 5 | 46 => 134 | 119 => 198 | 139 => 201 | 138 => 200 | 146 => 187 | 51 => 157 | n => n, fun | 1 => 1 | 3 => 2 | 4 => 3 | n => n⟩
theorem Tryz.lays146 : Go.Proofs.Lays.n146 Tryz.prog Tryz.lays146_ren := {
  mixed := by kernel_rfl
  f138 := Tryz.func109.trans (congrArg some zQ)
  f143 := Tryz.func79.trans (congrArg some zQ)
  f146 := Tryz.func56.trans (congrArg some zQ)
  f195 := Tryz.func140.trans (congrArg some zQ)
  f197 := Tryz.func141.trans (congrArg some zQ)
  f217 := Tryz.func137.trans (congrArg some zQ)
  f218 := Tryz.func142.trans (congrArg some zQ)
  f219 := Tryz.func107.trans (congrArg some zQ)
  f221 := Tryz.func82.trans (congrArg some zQ)
  f224 := Tryz.func113.trans (congrArg some zQ)
  f225 := Tryz.func138.trans (congrArg some zQ)
  f260 := Tryz.func154.trans (congrArg some zQ)
  f266 := Tryz.func152.trans (congrArg some zQ)
  f267 := Tryz.func139.trans (congrArg some zQ)
  f268 := Tryz.func108.trans (congrArg some zQ)
  f314 := Tryz.func153.trans (congrArg some zQ)
  t0 := Tryz.underlying0
  a0 := Tryz.isAgg0
  z0 := Tryz.sizeOf0
  v0 := Tryz.zeroValue0
  t3 := Tryz.underlying3
  a3 := Tryz.isAgg3
  z3 := Tryz.sizeOf3
  v3 := Tryz.zeroValue3
  t4 := Tryz.underlying4
  a4 := Tryz.isAgg4
  z4 := Tryz.sizeOf4
  v4 := Tryz.zeroValue4
  t5 := Tryz.underlying5
  a5 := Tryz.isAgg5
  z5 := Tryz.sizeOf5
  v5 := Tryz.zeroValue5
  t9 := Tryz.underlying9
  a9 := Tryz.isAgg9
  z9 := Tryz.sizeOf9
  v9 := Tryz.zeroValue9
  t21 := Tryz.underlying21
  a21 := Tryz.isAgg21
  z21 := Tryz.sizeOf21
  v21 := Tryz.zeroValue21
  t31 := Tryz.underlying75
  a31 := Tryz.isAgg75
  z31 := Tryz.sizeOf75
  v31 := Tryz.zeroValue75
  t46 := Tryz.underlying134
  a46 := Tryz.isAgg134
  z46 := Tryz.sizeOf134
  v46 := Tryz.zeroValue134
  t51 := Tryz.underlying157
  a51 := Tryz.isAgg157
  z51 := Tryz.sizeOf157
  v51 := Tryz.zeroValue157
  t105 := Tryz.underlying185
  a105 := Tryz.isAgg185
  z105 := Tryz.sizeOf185
  v105 := Tryz.zeroValue185
  t119 := Tryz.underlying198
  a119 := Tryz.isAgg198
  z119 := Tryz.sizeOf198
  t138 := Tryz.underlying200
  a138 := Tryz.isAgg200
  z138 := Tryz.sizeOf200
  v138 := Tryz.zeroValue200
  t139 := Tryz.underlying201
  a139 := Tryz.isAgg201
  z139 := Tryz.sizeOf201
  v139 := Tryz.zeroValue201
  t146 := Tryz.underlying187
  a146 := Tryz.isAgg187
  z146 := Tryz.sizeOf187
  v146 := Tryz.zeroValue187
  g1 := by kernel_rfl
  g3 := by kernel_rfl
  g4 := by kernel_rfl }
open Go.RowKit Go.Lib in
theorem Tryz.strings_Split (s sep : ByteArray) (m : Int) (w : World) (hs : s.size < 4294967281) (hm : w.cell? ⟨1, 0, none⟩ = some (.int .i64 m)) (h1 : 1 ≤ sep.size) :
    Calls Tryz.prog 56 #[.string s, .string sep] w fun e w' =>
      e = .returned (.slice (some ⟨w.heap.size, 0, none⟩) (Lib.countB s sep + 1) (Lib.countB s sep + 1)) ∧ w' = w.alloc (.cells ((Lib.splitB sep 0 (Lib.countB s sep) s).map Value.string).toArray 9) := Any.strings_Split Tryz.lays146 zQ s sep m w hs hm h1
def Tryz.lays260_ren : Go.Shelf.Ren := ⟨fun | 260 => 154 | n => n, fun | 9 => 9 | 21 => 21 | 3 => 3 | 4 => 4 | 5 => 5 | 119 => 198 | 0 => 0 | 46 => 134 | 139 => 201 | 138 => 200 | n => n, fun | 3 => 2 | 4 => 3 | n => n⟩
theorem Tryz.lays260 : Go.Proofs.Lays.n260 Tryz.prog Tryz.lays260_ren := {
  mixed := by kernel_rfl
  f260 := Tryz.func154.trans (congrArg some zQ)
  t0 := Tryz.underlying0
  a0 := Tryz.isAgg0
  z0 := Tryz.sizeOf0
  v0 := Tryz.zeroValue0
  t3 := Tryz.underlying3
  a3 := Tryz.isAgg3
  z3 := Tryz.sizeOf3
  v3 := Tryz.zeroValue3
  t4 := Tryz.underlying4
  a4 := Tryz.isAgg4
  z4 := Tryz.sizeOf4
  v4 := Tryz.zeroValue4
  t5 := Tryz.underlying5
  a5 := Tryz.isAgg5
  z5 := Tryz.sizeOf5
  v5 := Tryz.zeroValue5
  t9 := Tryz.underlying9
  a9 := Tryz.isAgg9
  z9 := Tryz.sizeOf9
  v9 := Tryz.zeroValue9
  t21 := Tryz.underlying21
  a21 := Tryz.isAgg21
  z21 := Tryz.sizeOf21
  v21 := Tryz.zeroValue21
  t46 := Tryz.underlying134
  a46 := Tryz.isAgg134
  z46 := Tryz.sizeOf134
  v46 := Tryz.zeroValue134
  t119 := Tryz.underlying198
  a119 := Tryz.isAgg198
  z119 := Tryz.sizeOf198
  t138 := Tryz.underlying200
  a138 := Tryz.isAgg200
  z138 := Tryz.sizeOf200
  v138 := Tryz.zeroValue200
  t139 := Tryz.underlying201
  a139 := Tryz.isAgg201
  z139 := Tryz.sizeOf201
  v139 := Tryz.zeroValue201
  g3 := by kernel_rfl
  g4 := by kernel_rfl }
open Go.RowKit Go.Lib in
theorem Tryz.utf8_decodeRuneInStringSlow (s : ByteArray) (w : World) (hT : Lib.Utf8Tabs 2 3 w) :
    Calls Tryz.prog 154 #[.string s] w fun e w' => e = .returned (.tuple #[.int .i32 (Lib.decodeGo s).1, .int .i64 (Lib.decodeGo s).2]) ∧ Below w.heap.size w w' := Any.utf8_decodeRuneInStringSlow Tryz.lays260 s w hT
def Tryz.lays185_ren : Go.Shelf.Ren := ⟨fun | 185 => 83 | 187 => 110 | 115 => 111 | 253 => 112 | 224 => 113 | 254 => 114 | 255 => 143 | 291 => 144 | n => n, fun | 37 => 46 | 3 => 3 | 4 => 4 | 0 => 0 | 5 => 5 | 46 => 134 | 9 => 9 | 146 => 187 | 51 => 157 | n => n, fun | 1 => 1 | n => n⟩
theorem Tryz.lays185 : Go.Proofs.Lays.n185 Tryz.prog Tryz.lays185_ren := {
  mixed := by kernel_rfl
  f115 := Tryz.func111.trans (congrArg some zQ)
  f185 := Tryz.func83.trans (congrArg some zQ)
  f187 := Tryz.func110.trans (congrArg some zQ)
  f224 := Tryz.func113.trans (congrArg some zQ)
  f253 := Tryz.func112.trans (congrArg some zQ)
  f254 := Tryz.func114.trans (congrArg some zQ)
  f255 := Tryz.func143.trans (congrArg some zQ)
  f291 := Tryz.func144.trans (congrArg some zQ)
  t0 := Tryz.underlying0
  a0 := Tryz.isAgg0
  z0 := Tryz.sizeOf0
  v0 := Tryz.zeroValue0
  t3 := Tryz.underlying3
  a3 := Tryz.isAgg3
  z3 := Tryz.sizeOf3
  v3 := Tryz.zeroValue3
  t4 := Tryz.underlying4
  a4 := Tryz.isAgg4
  z4 := Tryz.sizeOf4
  v4 := Tryz.zeroValue4
  t5 := Tryz.underlying5
  a5 := Tryz.isAgg5
  z5 := Tryz.sizeOf5
  v5 := Tryz.zeroValue5
  t9 := Tryz.underlying9
  a9 := Tryz.isAgg9
  z9 := Tryz.sizeOf9
  v9 := Tryz.zeroValue9
  t37 := Tryz.underlying46
  a37 := Tryz.isAgg46
  z37 := Tryz.sizeOf46
  v37 := Tryz.zeroValue46
  t46 := Tryz.underlying134
  a46 := Tryz.isAgg134
  z46 := Tryz.sizeOf134
  v46 := Tryz.zeroValue134
  t51 := Tryz.underlying157
  a51 := Tryz.isAgg157
  z51 := Tryz.sizeOf157
  v51 := Tryz.zeroValue157
  t146 := Tryz.underlying187
  a146 := Tryz.isAgg187
  z146 := Tryz.sizeOf187
  v146 := Tryz.zeroValue187
  g1 := by kernel_rfl }
open Go.RowKit Go.Lib in
theorem Tryz.bytes_Index_longer (p q : Option Addr) (n c m d : Nat) (w : World) (h2 : 2 ≤ m) (hnm : n < m) (hm : m ≤ 9223372036854775807) :
    Calls Tryz.prog 83 #[.slice p n c, .slice q m d] w fun e w' => e = .returned (.int .i64 (-1)) ∧ w' = w := Any.bytes_Index_longer Tryz.lays185 p q n c m d w h2 hnm hm
open Go.Proofs Go.RowKit Go.Lib in
theorem Tryz.bytes_Index_at (a1 a2 : Addr) (n c1 k c2 : Nat) (xs ys : List Int) (m : Int) (w : World) (hx : xs.length = n) (hy : ys.length = k) (hr1 : ∀ x ∈ xs, 0 ≤ x ∧ x < 256) (hr2 : ∀ y ∈ ys, 0 ≤ y ∧ y < 256) (hc1 : ∀ i, i < n → w.cell? (a1.add i) = some (.int .u8 (xs.getD i 0))) (hc2 : ∀ i, i < k → w.cell? (a2.add i) = some (.int .u8 (ys.getD i 0))) (hcap : n ≤ c1) (hs : n < 4294967281) (hk : k ≤ 9223372036854775807) (hm : w.cell? ⟨1, 0, none⟩ = some (.int .i64 m)) :
    Calls Tryz.prog 83 #[.slice (some a1) n c1, .slice (some a2) k c2] w fun e w' => e = .returned (.int .i64 (Lib.index (Lib.bytesOf xs) (Lib.bytesOf ys))) ∧ ∃ q, w' = w.drewN q := Any.bytes_Index_at Tryz.lays185 a1 a2 n c1 k c2 xs ys m w hx hy hr1 hr2 hc1 hc2 hcap hs hk hm
end Go.Proofs
end
section
namespace Go.Proofs.YtpigfccpogmeaaaGreatDoor.Scope
open Go
def _root_.Go.Exit.two (Q : Exit → Act → World → Prop) (K0 K1 : Act → World → Prop) : Exit → Act → World → Prop
  | .goto l, a, w => (l = 0 ∧ K0 a w) ∨ (l = 1 ∧ K1 a w)
  | e, a, w => Q e a w
section
variable {P : Program} {a : Act} {w : World} {Q : Exit → Act → World → Prop} {K0 K1 : Act → World → Prop}
theorem _root_.Go.Exit.two_ret : Exit.two Q K0 K1 .ret a w = Q .ret a w := rfl
theorem two_mono {K1' : Act → World → Prop} (h : ∀ a w, K1 a w → K1' a w) (e : Exit) (a : Act) (w : World) (hq : Exit.two Q K0 K1 e a w) : Exit.two Q K0 K1' e a w := by
  cases e with
  | goto l =>
    rcases hq with ⟨h1, h2⟩ | ⟨h1, h2⟩
    · exact Or.inl ⟨h1, h2⟩
    exact Or.inr ⟨h1, h _ _ h2⟩
  | normal => exact hq
  | exit id => exact hq
  | ret => exact hq
  | panic ch => exact hq
  | outgrown => exact hq
def LW (P : Program) (r1 : Code) (K0 : Act → World → Prop) (Q : Exit → Act → World → Prop) (a : Act) (w : World) : Prop :=
  ∃ (I : Nat → Act → World → Prop) (n₀ : Nat), I n₀ a w ∧ ∀ n a w, I n a w → r1.wp P (Exit.two Q K0 (fun a' w' => ∃ n', n' < n ∧ I n' a' w')) a w
theorem LW.enter {r1 : Code} (hK1 : ∀ a w, LW P r1 K0 Q a w → K1 a w) (h : LW P r1 K0 Q a w) : r1.wp P (Exit.two Q K0 K1) a w := by
  obtain ⟨I, n₀, h0, hI⟩ := h;exact wp_mono (hI n₀ a w h0) (two_mono fun a' w' ⟨n', _, hn'⟩ => hK1 a' w' ⟨I, n', hn', hI⟩)
theorem wp_scope_two {c r0 r1 : Code} (h0 : findLabel c 0 = some (.seq .skip r0)) (h1 : findLabel c 1 = some (.seq .skip r1))
    (first : ∀ K0 : Act → World → Prop, (∀ a w, r0.wp P (Exit.noGoto Q) a w → K0 a w) → ∀ K1 : Act → World → Prop, (∀ a w, LW P r1 K0 Q a w → K1 a w) → c.wp P (Exit.two Q K0 K1) a w) : (Code.scope c).wp P Q a w := by
  have first := first (fun a w => r0.wp P (Exit.noGoto Q) a w) (fun _ _ h => h) (fun a w => LW P r1 (fun a w => r0.wp P (Exit.noGoto Q) a w) Q a w) (fun _ _ h => h)
  intro b k cs;have hg0 : gotoIn 0 (.inScope c :: k) = some (.code (.seq .skip r0) :: .inScope c :: k) := by simp [gotoIn, h0]
  have hg1 : gotoIn 1 (.inScope c :: k) = some (.code (.seq .skip r1) :: .inScope c :: k) := by simp [gotoIn, h1]
  have key0 : ∀ a w, r0.wp P (Exit.noGoto Q) a w → ∃ e a' w', Q e a' w' ∧ Arrives P (lone (b.at a (.code (.seq .skip r0) :: .inScope c :: k)) cs w) b k cs e a' w' := by
    intro a w h;have h : (Code.seq .skip r0).wp P (Exit.noGoto Q) a w := wp_seq (wp_skip h);obtain ⟨e, a₁, w₁, hq, harr⟩ := h b (.inScope c :: k) cs;cases e with
    | normal => exact ⟨.normal, a₁, w₁, hq, Steps.trans harr (.one step_inScope)⟩
    | exit id => exact ⟨.exit id, a₁, w₁, hq, fun k' hk => harr k' (by simp [exitTo, hk])⟩
    | goto l => exact hq.elim
    | ret => exact ⟨_, a₁, w₁, hq, harr⟩
    | panic ch => exact ⟨_, a₁, w₁, hq, harr⟩
    | outgrown => exact ⟨_, a₁, w₁, hq, harr⟩
  have key1 : ∀ I : Nat → Act → World → Prop, (∀ n a w, I n a w → r1.wp P (Exit.two Q (fun a w => r0.wp P (Exit.noGoto Q) a w) (fun a' w' => ∃ n', n' < n ∧ I n' a' w')) a w) →
      ∀ n a w, I n a w → ∃ e a' w', Q e a' w' ∧ Arrives P (lone (b.at a (.code (.seq .skip r1) :: .inScope c :: k)) cs w) b k cs e a' w' := by
    intro I hI n
    induction n using Nat.strongRecOn with
    | _ n ih =>
      intro a w hJ;have h : (Code.seq .skip r1).wp P (Exit.two Q (fun a w => r0.wp P (Exit.noGoto Q) a w) (fun a' w' => ∃ n', n' < n ∧ I n' a' w')) a w := wp_seq (wp_skip (hI n a w hJ));obtain ⟨e, a₁, w₁, hq, harr⟩ := h b (.inScope c :: k) cs;cases e with
      | normal => exact ⟨.normal, a₁, w₁, hq, Steps.trans harr (.one step_inScope)⟩
      | exit id => exact ⟨.exit id, a₁, w₁, hq, fun k' hk => harr k' (by simp [exitTo, hk])⟩
      | goto l' =>
        rcases hq with ⟨rfl, hq⟩ | ⟨rfl, n', hlt, hn'⟩
        · obtain ⟨e₂, a₂, w₂, hq₂, harr₂⟩ := key0 _ _ hq;exact ⟨e₂, a₂, w₂, hq₂, .of_steps (harr _ hg0) harr₂⟩
        obtain ⟨e₂, a₂, w₂, hq₂, harr₂⟩ := ih n' hlt _ _ hn';exact ⟨e₂, a₂, w₂, hq₂, .of_steps (harr _ hg1) harr₂⟩
      | ret => exact ⟨_, a₁, w₁, hq, harr⟩
      | panic ch => exact ⟨_, a₁, w₁, hq, harr⟩
      | outgrown => exact ⟨_, a₁, w₁, hq, harr⟩
  obtain ⟨e, a₁, w₁, hq, harr⟩ := first b (.inScope c :: k) cs
  cases e with
  | normal => exact ⟨.normal, a₁, w₁, hq, .head step_scope (Steps.trans harr (.one step_inScope))⟩
  | exit id => exact ⟨.exit id, a₁, w₁, hq, fun k' hk => .head step_scope (harr k' (by simp [exitTo, hk]))⟩
  | goto l' =>
    rcases hq with ⟨rfl, hq⟩ | ⟨rfl, I, n₀, hI0, hI⟩
    · obtain ⟨e₂, a₂, w₂, hq₂, harr₂⟩ := key0 _ _ hq;exact ⟨e₂, a₂, w₂, hq₂, .of_steps (.head step_scope (harr _ hg0)) harr₂⟩
    obtain ⟨e₂, a₂, w₂, hq₂, harr₂⟩ := key1 I hI n₀ _ _ hI0;exact ⟨e₂, a₂, w₂, hq₂, .of_steps (.head step_scope (harr _ hg1)) harr₂⟩
  | ret => exact ⟨_, a₁, w₁, hq, .of_steps (.one step_scope) harr⟩
  | panic ch => exact ⟨_, a₁, w₁, hq, .of_steps (.one step_scope) harr⟩
  | outgrown => exact ⟨_, a₁, w₁, hq, .of_steps (.one step_scope) harr⟩
end
end Go.Proofs.YtpigfccpogmeaaaGreatDoor.Scope
end
section
namespace Go.Proofs.YtpigfccpogmeaaaGreatDoor.S
open Go.RowKit Go.Proofs.YtpigfccpogmeaaaGreatDoorW.PrintWords Go.Proofs.YtpigfccpogmeaaaGreatDoorW.PrintLast Go.Proofs.YtpigfccpogmeaaaGreatDoorW.PrintMore
attribute [local go_sem] max2_int min2_int max_two min_two max_three min_three max_four min_four
set_option linter.unusedVariables false
set_option linter.unusedSimpArgs false
def ML (w : World) : Prop := ∃ m : Int, w.cell? ⟨1, 0, none⟩ = some (.int .i64 m)
theorem ML.keep {w w' : World} (h : ML w) (hb : Below w.heap.size w w') : ML w' := by
  obtain ⟨m, hm⟩ := h;refine ⟨m, ?_⟩;have h0 : (⟨1, 0, none⟩ : Addr).block < w.heap.size := zw w _ hm;have h1 : w'.heap[1]? = w.heap[1]? := hb.block 1 h0;rw [← hm];simp [World.cell?, h1]

theorem int_inner {P_ : World} {b_ : Nat} {ok_ : Nat → Prop} {xs : List Int} {inner : List Value} (hr : Reps ((Kd.int .u8).M P_ b_ ok_) 1 xs inner) : inner = xs.map (Value.int .u8) := by
  apply List.ext_getElem?;intro j
  rcases Nat.lt_or_ge j xs.length with hj | hj
  rotate_left
  · have h3 : inner.length = xs.length := by have := hr.1; omega
    rw [List.getElem?_eq_none zO, List.getElem?_eq_none (by rw [List.length_map]; omega)]
  have h2 := hr.2 j _ (zr hj);have hl : j < inner.length := by have := hr.1; omega
  have h3 : (inner.drop (j * 1)).take 1 = [Value.int .u8 xs[j]] := h2;rw [Nat.mul_one, List.drop_eq_getElem_cons hl] at h3;have h4 : inner[j] = Value.int .u8 xs[j] := by
    have h5 := congrArg List.head? h3;rw [List.take_succ_cons] at h5;exact zo h5
  rw [zr hl, h4];simp [zr hj]
theorem marked_V (W : World) (xs : List Int) (e base : Nat) (fr : Nat × Nat) (ok : Nat → Prop) (hok : ok W.heap.size) (hm : xs.length ≤ 9223372036854775807) :
    Kd.V (Kd.int .u8) e (W.alloc (.cells (xs.map (Value.int .u8)).toArray e fr)) base ok (.slice (some ⟨W.heap.size, 0, none⟩) xs.length xs.length) xs := by
  refine Kd.V_mk (zh _) ?_;intro W' hk;have hsz : (W.alloc (.cells (xs.map (Value.int .u8)).toArray e fr)).heap.size = W.heap.size + 1 := by
    show (W.heap.push _).size = _
    simp
  have hh : W'.heap[W.heap.size]? = some (.cells (xs.map (Value.int .u8)).toArray e fr) := by
    rw [hk W.heap.size hok zO]
    show (W.heap.push _)[W.heap.size]? = _
    simp
  refine Kd.C_of_reads (d := (0 : Int)) (h1 := fun _ => rfl) ⟨rfl, hm, fun _ => ⟨_, rfl, fun j hj => ?_⟩⟩;rw [add_plain];simp [World.cell?, hh, zr hj, List.getD_eq_getElem?_getD]
theorem Kd.V_lit {P : Program} {ops : Array Oper} {Q : Exit → Act → World → Prop} {o : Oper} {rest : List Oper} {a : Act} {w0 W : World} (_d : Kd Int) (base e : Nat) (hgd : o.guard = none) {N : Tmp} (_hd : o.dst = some N) {xs : List Int} {inner : List Value} {ok okp : Nat → Prop}
    (hrun : (execOp a.eval o).run P (W.alloc (.cells inner.toArray e)) = .ok (.value (.slice (some ⟨W.heap.size, 0, none⟩) xs.length xs.length)) (W.alloc (.cells inner.toArray e (inner.length, inner.length + 1))))
    (hrep : Reps ((Kd.int .u8).M W base okp) 1 xs inner) (_hok : ∀ k, okp k → ok k) (hfresh : ok W.heap.size) (HB : Below base w0 W) (hbase : base ≤ W.heap.size) (hm : xs.length ≤ 9223372036854775807)
    (h : ∀ v1 w1, Kd.V (Kd.int .u8) e w1 base ok v1 xs → Below base w0 w1 → True → True → wpList P ops Q rest (a.put o.dst v1) w1) : wpList P ops Q (o :: rest) a (W.alloc (.cells inner.toArray e)) := by
  have hi := int_inner hrep;subst hi;exact Kd.event_run hgd hrun (h _ _ (marked_V W xs e base _ ok hfresh hm) (HB.alloc hbase _) trivial trivial)

def MRow (W : World) (b e : Nat) (l : List UInt8) : Prop :=
  ∃ pad : List Value, W.heap[b]? = some (.cells (l.map (fun x => Value.int .u8 (x.toNat : Int)) ++ pad).toArray e (l.length + pad.length, l.length + pad.length + 1))
theorem MRow.cell {W : World} {b e : Nat} {l : List UInt8} (h : MRow W b e l) (i : Nat) (hi : i < l.length) : W.cell? ⟨b, i, none⟩ = some (.int .u8 ((l[i]).toNat : Int)) := by
  obtain ⟨pad, h⟩ := h;simp [World.cell?, h, List.getElem?_append, hi]
theorem MRow.frozen {W : World} {b e : Nat} {l : List UInt8} (h : MRow W b e l) (i : Nat) (hi : i < l.length) : W.frozen? ⟨b, i, none⟩ = false := by
  obtain ⟨pad, h⟩ := h;simp [World.frozen?, h];omega
theorem MRow.set {W : World} {b e : Nat} {l : List UInt8} (h : MRow W b e l) (i : Nat) (hi : i < l.length) (x : UInt8) : MRow (W.setCell ⟨b, i, none⟩ (.int .u8 (x.toNat : Int))) b e (l.set i x) := by
  obtain ⟨pad, h⟩ := h;refine ⟨pad, ?_⟩;simp [World.setCell, Array.getElem?_modify, h, List.map_set, hi]
theorem MRow.below {W W' : World} {b e : Nat} {l : List UInt8} (h : MRow W b e l) (hb : Below W.heap.size W W') : MRow W' b e l := by
  obtain ⟨pad, h⟩ := h;exact ⟨pad, (hb.block b (Array.getElem?_eq_some_iff.1 h).1).trans h⟩
theorem MRow.new (w : World) (e : TypeId) (s : ByteArray) : MRow (Lib.bytesWorld w e s) w.heap.size e s.data.toList := by
  refine ⟨List.replicate (grownCap w s.size 0 e - s.size) (.int .u8 0), ?_⟩;rw [Lib.bytesWorld_at_new];have hs : s.data.toList.length = s.size := by simp
  congr 2
  · apply Array.ext';simp [Lib.bytesCells]
  simp [Lib.bytesCells]
theorem bytes_below (w : World) (e : TypeId) (s : ByteArray) : Below w.heap.size w (Lib.bytesWorld w e s) := by
  refine ⟨rfl, rfl, rfl, ?_, fun k hk => Lib.bytesWorld_at_old w e s k hk⟩;rw [Lib.bytesWorld_size];omega
theorem MRow.C {W : World} {b e : Nat} {l : List UInt8} (h : MRow W b e l) (hl : l.length ≤ 9223372036854775807) : Kd.C (Kd.int .u8) W (some ⟨b, 0, none⟩) (l.map (fun x => (x.toNat : Int))).length (l.map (fun x => (x.toNat : Int))) := by
  refine Kd.C_of_reads (d := (0 : Int)) (h1 := fun _ => rfl) ⟨rfl, by rw [List.length_map]; exact hl, fun _ => ⟨_, rfl, fun j hj => ?_⟩⟩;rw [List.length_map] at hj;rw [add_plain, h.cell j hj];simp [List.getD_eq_getElem?_getD, hj]
theorem MRow.string {P : Program} {W : World} {b e : Nat} {l : List UInt8} {src dst : TypeId} (hs : P.underlying src = some (.slice e)) (he : P.underlying e = some (.int .u8)) (hd : P.underlying dst = some .string)
    (h : MRow W b e l) (hl : l.length ≤ 9223372036854775807) (c : Nat) : (convert src dst (.slice (some ⟨b, 0, none⟩) l.length c)).run P W = .ok (.string ⟨l.toArray⟩) W := by
  have h2 := Kd.C_string (P := P) (c := c) hs he hd (h.C hl);have h3 : strOfNums (l.map (fun x => (x.toNat : Int))) = ⟨l.toArray⟩ := by
    unfold strOfNums
    congr 2
    rw [List.map_map]
    conv => rhs; rw [← List.map_id l]
    apply List.map_congr_left;intro x _;simp
  rw [List.length_map, h3] at h2;exact h2
def Kd.float : Kd Nat := Kd.scalar (Value.float .f64) (fun _ => rfl)
theorem Kd.at_float {w : World} {A : Option Addr} {n : Nat} {xs : List Nat} (h : Kd.float.C w A n xs) (i : Int) (h0 : 0 ≤ i) (h1 : i < n) : ∃ ad, A = some ad ∧ w.cell? (ad.add i.toNat) = some (.float .f64 (rdOf 0 xs i)) :=
  ReadsOf.at_ (Kd.reads_of_C (enc := Value.float .f64) (d := (0 : Nat)) (h1 := fun _ => rfl) h) i h0 h1
def fadd (a b : Nat) : Nat := (Ieee.double.add a b).getD 0
def fsub (a b : Nat) : Nat := (Ieee.double.sub a b).getD 0
def fmul (a b : Nat) : Nat := (Ieee.double.mul a b).getD 0
def fquo (a b : Nat) : Nat := (Ieee.double.div a b).getD 0
def faddOk (a b : Nat) : Bool := (Ieee.double.add a b).isSome
def fsubOk (a b : Nat) : Bool := (Ieee.double.sub a b).isSome
def fmulOk (a b : Nat) : Bool := (Ieee.double.mul a b).isSome
def fquoOk (a b : Nat) : Bool := (Ieee.double.div a b).isSome
def feql (a b : Nat) : Bool := Ieee.double.order a b == some .eq
def fneq (a b : Nat) : Bool := Ieee.double.order a b != some .eq
def flss (a b : Nat) : Bool := Ieee.double.order a b == some .lt
def fleq (a b : Nat) : Bool := Ieee.double.order a b == some .lt || Ieee.double.order a b == some .eq
def fgtr (a b : Nat) : Bool := Ieee.double.order a b == some .gt
def fgeq (a b : Nat) : Bool := Ieee.double.order a b == some .gt || Ieee.double.order a b == some .eq
def fneg (a : Nat) : Nat := Op.negFloat .f64 a
def fint (n : Int) : Nat := FloatKind.f64.nearest n
section
variable {P : Program} (w : World) (t : TypeId) (a b : Nat)
theorem fbin_eql : binOp .eql t (.float .f64 a) (.float .f64 b) = pure (.bool (feql a b)) := by simp [binOp, Op.equal, Op.equalIn, Op.floatCmp, feql, FloatKind.format]
theorem fbin_neq : binOp .neq t (.float .f64 a) (.float .f64 b) = pure (.bool (fneq a b)) := by simp [binOp, Op.floatCmp, fneq, FloatKind.format]
theorem fbin_lss : binOp .lss t (.float .f64 a) (.float .f64 b) = pure (.bool (flss a b)) := by simp [binOp, Op.floatCmp, flss, FloatKind.format]
theorem fbin_leq : binOp .leq t (.float .f64 a) (.float .f64 b) = pure (.bool (fleq a b)) := by simp [binOp, Op.floatCmp, fleq, FloatKind.format]
theorem fbin_gtr : binOp .gtr t (.float .f64 a) (.float .f64 b) = pure (.bool (fgtr a b)) := by simp [binOp, Op.floatCmp, fgtr, FloatKind.format]
theorem fbin_geq : binOp .geq t (.float .f64 a) (.float .f64 b) = pure (.bool (fgeq a b)) := by simp [binOp, Op.floatCmp, fgeq, FloatKind.format]
theorem frun_add (h : faddOk a b = true) : (binOp .add t (.float .f64 a) (.float .f64 b)).run P w = .ok (.float .f64 (fadd a b)) w := by
  obtain ⟨r, hr⟩ := Option.isSome_iff_exists.1 h;simp [binOp, Op.floatArith, FloatKind.format, fadd, hr]
theorem frun_sub (h : fsubOk a b = true) : (binOp .sub t (.float .f64 a) (.float .f64 b)).run P w = .ok (.float .f64 (fsub a b)) w := by
  obtain ⟨r, hr⟩ := Option.isSome_iff_exists.1 h;simp [binOp, Op.floatArith, FloatKind.format, fsub, hr]
theorem frun_mul (h : fmulOk a b = true) : (binOp .mul t (.float .f64 a) (.float .f64 b)).run P w = .ok (.float .f64 (fmul a b)) w := by
  obtain ⟨r, hr⟩ := Option.isSome_iff_exists.1 h;simp [binOp, Op.floatArith, FloatKind.format, fmul, hr]
theorem frun_quo (h : fquoOk a b = true) : (binOp .quo t (.float .f64 a) (.float .f64 b)).run P w = .ok (.float .f64 (fquo a b)) w := by
  obtain ⟨r, hr⟩ := Option.isSome_iff_exists.1 h;simp [binOp, Op.floatArith, FloatKind.format, fquo, hr]
theorem frun_store (x : Addr) (m : Mode) : (store x (.float .f64 a) m).run P w = stored P w x (.float .f64 a) m := run_store P w x _ m rfl
theorem fun_neg : Op.unary .neg (.float .f64 a) = pure (.float .f64 (fneg a)) := rfl
theorem fcv_int {s : TypeId} {k : IntKind} (hs : P.underlying s = some (.int k)) (ht : P.underlying t = some (.float .f64)) (n : Int) : (convert s t (.int k n)).run P w = .ok (.float .f64 (fint n)) w := by
  simp [convert, run_underlying hs, run_underlying ht, Conv.intToFloat, fint]
theorem fcv_same {s : TypeId} (hs : P.underlying s = some (.float .f64)) (ht : P.underlying t = some (.float .f64)) : (convert s t (.float .f64 a)).run P w = .ok (.float .f64 a) w := by
  simp [convert, run_underlying hs, run_underlying ht, Conv.floatToFloat]
end
set_option maxRecDepth 100000 in
theorem fb88 (n : Int) (w : World) : (callFunc 88 #[.int .u64 n]).run Tryz.prog w = .ok (.value (.float .f64 n.toNat)) w := by rfl
set_option maxRecDepth 100000 in
theorem fb89 (n : Nat) (w : World) : (callFunc 89 #[.float .f64 n]).run Tryz.prog w = .ok (.value (.int .u64 n)) w := by rfl



def errW : Option Int → Value
  | none => .nilIface
  | some c => .iface 0 (.int .i64 c)
theorem errW_none : errW none = .nilIface := rfl
theorem errW_some (c : Int) : errW (some c) = .iface 0 (.int .i64 c) := rfl

theorem info5 : (Tryz.prog.info? 5).map (fun i => (i.zero, i.size, i.bytes)) = some (some (.int .u8 0), 1, 1) := by kernel_rfl
theorem info26 : (Tryz.prog.info? 26).map (fun i => (i.zero, i.size, i.bytes)) = some (some (.float .f64 0), 1, 8) := by kernel_rfl
theorem info88 : (Tryz.prog.info? 88).map (fun i => (i.zero, i.size, i.bytes)) = some (some (.agg #[(.string ⟨#[]⟩), (.string ⟨#[]⟩)]), 2, 32) := by kernel_rfl
-- the values' own types
structure S54 where
  f0 : ByteArray
  f1 : ByteArray
  f2 : ByteArray
def z54 : S54 := ⟨(⟨#[]⟩ : ByteArray), (⟨#[]⟩ : ByteArray), (⟨#[]⟩ : ByteArray)⟩
def k54 : Kd S54 := Kd.iso (Kd.pair Kd.string (Kd.pair Kd.string Kd.string)) (fun x : S54 => (x.f0, x.f1, x.f2))
theorem k54_open {w : World} {x : S54} {cs : List Value} (h : k54.K w x cs) : cs = [.string x.f0, .string x.f1, .string x.f2] := by
  obtain ⟨_, _, rfl, rfl, ⟨_, _, rfl, rfl, rfl⟩⟩ := h;exact rfl
def rd_T54 (xs : List S54) (i : Int) : S54 := xs.getD i.toNat z54
theorem at_T54 {w : World} {A : Option Addr} {n : Nat} {xs : List S54} (h : Kd.C k54 w A n xs) (i : Int) (h0 : 0 ≤ i) (h1 : i < n) : ∃ ad , A = some ad ∧ w.cell? (ad.add (i.toNat * 3)) = some (.string (rd_T54 xs i).f0) ∧ w.cell? ⟨(ad.add (i.toNat * 3)).block, (ad.add (i.toNat * 3)).off + 1, none⟩ = some (.string (rd_T54 xs i).f1) ∧ w.cell? ⟨(ad.add (i.toNat * 3)).block, (ad.add (i.toNat * 3)).off + 2, none⟩ = some (.string (rd_T54 xs i).f2) := by
  obtain ⟨ad, c, e, _, hK, hc0⟩ := Kd.C_get h z54 i h0 h1;have hc : ∀ j u, c[j]? = some u → w.cell? (ad.add (i.toNat * 3 + j)) = some u := hc0;obtain rfl := k54_open hK;exact ⟨ad, e, hc 0 _ rfl, by rw [← add_field _ _ 1 zO]; exact hc 1 _ rfl, by rw [← add_field _ _ 2 zO]; exact hc 2 _ rfl⟩

structure S62 where
  f0 : ByteArray
  f1 : Nat
def z62 : S62 := ⟨(⟨#[]⟩ : ByteArray), (0 : Nat)⟩
def k62 : Kd S62 := Kd.iso (Kd.pair Kd.string Kd.float) (fun x : S62 => (x.f0, x.f1))
theorem k62_open {w : World} {x : S62} {cs : List Value} (h : k62.K w x cs) : cs = [.string x.f0, .float .f64 x.f1] := by
  obtain ⟨_, _, rfl, rfl, rfl⟩ := h;exact rfl
def rd_T62 (xs : List S62) (i : Int) : S62 := xs.getD i.toNat z62
theorem at_T62 {w : World} {A : Option Addr} {n : Nat} {xs : List S62} (h : Kd.C k62 w A n xs) (i : Int) (h0 : 0 ≤ i) (h1 : i < n) : ∃ ad , A = some ad ∧ w.cell? (ad.add (i.toNat * 2)) = some (.string (rd_T62 xs i).f0) ∧ w.cell? ⟨(ad.add (i.toNat * 2)).block, (ad.add (i.toNat * 2)).off + 1, none⟩ = some (.float .f64 (rd_T62 xs i).f1) := by
  obtain ⟨ad, c, e, _, hK, hc0⟩ := Kd.C_get h z62 i h0 h1;have hc : ∀ j u, c[j]? = some u → w.cell? (ad.add (i.toNat * 2 + j)) = some u := hc0;obtain rfl := k62_open hK;exact ⟨ad, e, hc 0 _ rfl, by rw [← add_field _ _ 1 zO]; exact hc 1 _ rfl⟩

structure S58 where
  f0 : ByteArray
  f1 : (List S62)
def z58 : S58 := ⟨(⟨#[]⟩ : ByteArray), ([] : List S62)⟩
def k58 : Kd S58 := Kd.iso (Kd.pair Kd.string (Kd.slice 62 k62)) (fun x : S58 => (x.f0, x.f1))
theorem k58_open {w : World} {x : S58} {cs : List Value} (h : k58.K w x cs) : ∃ A1 c1, cs = [.string x.f0, .slice A1 x.f1.length c1] ∧ x.f1.length ≤ c1 ∧ k62.C w A1 x.f1.length x.f1 := by
  obtain ⟨_, _, rfl, rfl, ⟨A1, c1, rfl, l1, g1⟩⟩ := h;exact ⟨A1, c1, rfl, l1, g1⟩
theorem k58_mkM (w : World) (base : Nat) (ok : Nat → Prop) (x : S58) {v1 : Value} (g1 : k62.R 62 w base ok v1 x.f1) : k58.M w base ok x [.string x.f0, v1] := ⟨[.string x.f0], [v1], rfl, rfl, ⟨v1, rfl, g1⟩⟩
def rd_T58 (xs : List S58) (i : Int) : S58 := xs.getD i.toNat z58
theorem at_T58 {w : World} {A : Option Addr} {n : Nat} {xs : List S58} (h : Kd.C k58 w A n xs) (i : Int) (h0 : 0 ≤ i) (h1 : i < n) : ∃ ad A1 c1, A = some ad ∧ w.cell? (ad.add (i.toNat * 2)) = some (.string (rd_T58 xs i).f0) ∧ w.cell? ⟨(ad.add (i.toNat * 2)).block, (ad.add (i.toNat * 2)).off + 1, none⟩ = some (.slice A1 (rd_T58 xs i).f1.length c1) ∧ (rd_T58 xs i).f1.length ≤ c1 ∧ k62.C w A1 (rd_T58 xs i).f1.length (rd_T58 xs i).f1 := by
  obtain ⟨ad, c, e, _, hK, hc0⟩ := Kd.C_get h z58 i h0 h1;have hc : ∀ j u, c[j]? = some u → w.cell? (ad.add (i.toNat * 2 + j)) = some u := hc0;obtain ⟨A1, c1, rfl, l1, g1⟩ := k58_open hK;exact ⟨ad, A1, c1, e, hc 0 _ rfl, by rw [← add_field _ _ 1 zO]; exact hc 1 _ rfl, l1, g1⟩

structure S88 where
  f0 : ByteArray
  f1 : ByteArray
def z88 : S88 := ⟨(⟨#[]⟩ : ByteArray), (⟨#[]⟩ : ByteArray)⟩
def k88 : Kd S88 := Kd.iso (Kd.pair Kd.string Kd.string) (fun x : S88 => (x.f0, x.f1))
theorem k88_open {w : World} {x : S88} {cs : List Value} (h : k88.K w x cs) : cs = [.string x.f0, .string x.f1] := by
  obtain ⟨_, _, rfl, rfl, rfl⟩ := h;exact rfl
theorem k88_mkM (w : World) (base : Nat) (ok : Nat → Prop) (x : S88)  : k88.M w base ok x [.string x.f0, .string x.f1] := ⟨[.string x.f0], [.string x.f1], rfl, rfl, rfl⟩
def rd_T88 (xs : List S88) (i : Int) : S88 := xs.getD i.toNat z88
theorem at_T88 {w : World} {A : Option Addr} {n : Nat} {xs : List S88} (h : Kd.C k88 w A n xs) (i : Int) (h0 : 0 ≤ i) (h1 : i < n) : ∃ ad , A = some ad ∧ w.cell? (ad.add (i.toNat * 2)) = some (.string (rd_T88 xs i).f0) ∧ w.cell? ⟨(ad.add (i.toNat * 2)).block, (ad.add (i.toNat * 2)).off + 1, none⟩ = some (.string (rd_T88 xs i).f1) := by
  obtain ⟨ad, c, e, _, hK, hc0⟩ := Kd.C_get h z88 i h0 h1;have hc : ∀ j u, c[j]? = some u → w.cell? (ad.add (i.toNat * 2 + j)) = some u := hc0;obtain rfl := k88_open hK;exact ⟨ad, e, hc 0 _ rfl, by rw [← add_field _ _ 1 zO]; exact hc 1 _ rfl⟩

end Go.Proofs.YtpigfccpogmeaaaGreatDoor.S
end
section
namespace Go.Proofs.YtpigfccpogmeaaaGreatDoor.S
open Go.RowKit Go.Proofs.YtpigfccpogmeaaaGreatDoorW.PrintWords Go.Proofs.YtpigfccpogmeaaaGreatDoorW.PrintLast Go.Proofs.YtpigfccpogmeaaaGreatDoorW.PrintMore
attribute [local go_sem] max2_int min2_int max_two min_two max_three min_three max_four min_four
attribute [local go_sem] fbin_eql fbin_neq fbin_lss fbin_leq fbin_gtr fbin_geq frun_add frun_sub frun_mul frun_quo frun_store fun_neg fcv_int fcv_same fb88 fb89
set_option linter.unusedVariables false
set_option linter.unusedSimpArgs false
-- NOT PRINTED: function 102 (slices_partitionOrdered_string)

-- NOT PRINTED: function 73 (slices_pdqsortOrdered_string)

-- NOT PRINTED: function 43 (slices_Sort_string_string)

-- NOT PRINTED: function 18 (slices_Sorted_string)

-- NOT PRINTED: function 19 (api_Target_19)

-- NOT PRINTED: function 105 (conf_place_105)

-- NOT PRINTED: function 75 (conf_place_75)

-- NOT PRINTED: function 129 (conf_place_129)

-- NOT PRINTED: function 149 (conf_place_149)

-- NOT PRINTED: function 130 (conf_place_130)

-- NOT PRINTED: function 131 (conf_place_131)

-- NOT PRINTED: function 157 (conf_place_157)

-- NOT PRINTED: function 151 (conf_place_151)

-- NOT PRINTED: function 150 (conf_place_150)

-- NOT PRINTED: function 132 (conf_place_132)

-- NOT PRINTED: function 133 (conf_place_133)

-- NOT PRINTED: function 134 (conf_place_134)

-- NOT PRINTED: function 135 (conf_place_135)

-- NOT PRINTED: function 136 (conf_place_136)

-- NOT PRINTED: function 106 (conf_place_106)

-- NOT PRINTED: function 76 (conf_place_76)

-- NOT PRINTED: function 45 (conf_place_45)

-- NOT PRINTED: function 46 (conf_place_string)

-- NOT PRINTED: function 21 (conf_Store_sorted)

def wire_number.l0 : Nat → List Int → Int → Option (List Int)
  | 0, _, _ => none
  | k + 1, x0, x1 => if x1 ≥ 128 then (if x0.length < 140737488355328 then (wire_number.l0 k (x0 ++ [(Go.bits .or .i64 (Go.bits .and .i64 x1 127) 128) % 256]) (x1 / 128)) else (none)) else (if x0.length < 140737488355328 then (some (x0 ++ [(x1) % 256])) else (none))
def wire_number.f (k : Nat) (l0 : List Int) (a1 : Int) : Option (List Int) := wire_number.l0 k l0 a1
theorem wire_number.mono_l : ∀ k, (∀ y0 y1, LeO (wire_number.l0 k y0 y1) (wire_number.l0 (k + 1) y0 y1))
  | 0 => fun _ _ r h => by simp [wire_number.l0] at h
  | k + 1 => by
    have ih0 := wire_number.mono_l k;intro y0 y1;unfold wire_number.l0
    repeat' with_reducible first | exact ih0 _ _ | exact LeO.refl _ | exact LeO.none _ | refine LeO.ite ?_ ?_ | refine LeO.bind ?_ (fun _ => ?_)
theorem wire_number.mono : ∀ a0 a1 k, LeO (wire_number.f k a0 a1) (wire_number.f (k + 1) a0 a1) := by
  intro a0 a1 k;have ih0 := wire_number.mono_l k;unfold wire_number.f
  repeat' with_reducible first | exact ih0 _ _ | exact LeO.refl _ | exact LeO.none _ | refine LeO.ite ?_ ?_ | refine LeO.bind ?_ (fun _ => ?_)
set_option maxHeartbeats 8000000 in
set_option maxRecDepth 100000 in
theorem wire_number.calls (k : Nat) (P0_ : Nat → Prop) (u9000_ : Value) (l0 : List Int) (a1 : Int) (r : List Int) (w0 w : World) (hB : Below w0.heap.size w0 w) (ho0 : Kd.R (Kd.int .u8) 5 w w0.heap.size P0_ u9000_ l0) (h : wire_number.f k l0 a1 = some r) :
    Calls Tryz.prog 123 #[u9000_, .int .i64 a1] w fun e w' => ∃ v0_ : Value, e = .returned (v0_) ∧ Kd.R (Kd.int .u8) 5 w' w0.heap.size (fun k_ => (P0_ k_ ∨ w.heap.size ≤ k_)) v0_ r ∧ Below w0.heap.size w0 w' ∧ Kept w w' (fun k_ => P0_ k_) := by
  have HO0 := zN (show Kd.R (Kd.int .u8) 5 w w0.heap.size (fun k_ => (P0_ k_ ∨ w.heap.size ≤ k_)) u9000_ l0 from Kd.R_mono ho0 (fun k_ hk => (.inl hk)));have HK := zN (Kept.refl w (fun k_ => P0_ k_));have HW0 := zN hB.size;have HB := zN hB;clear hB;have H : (wire_number.l0 k l0 a1) = some r := h;clear h;have H' := zN H;clear H;go_enter Tryz.func123, Tryz.ntmps123;go_wp2;go_loopg [0, 1] k (fun kq v0 v1 w' => ∃ (x0_1 : List Int) (x1_1 : Int), v1 = .int .i64 x1_1 ∧ Aside0 (wire_number.l0 kq x0_1 x1_1 = some r) ∧ Aside0 (kq ≤ k) ∧ Aside0 (Kd.R (Kd.int .u8) 5 w' w0.heap.size (fun k_ => (P0_ k_ ∨ w.heap.size ≤ k_)) v0 x0_1) ∧ Aside0 (Kept w w' (fun k_ => P0_ k_)) ∧ Aside0 (Below w0.heap.size w0 w'))
  case atStart => exact ⟨(l0), (a1), zI, H', ⟨zh _⟩, ⟨zR HO0⟩, ⟨by repeat (first | (with_reducible first | exact HK.out | apply Kept.alloc | apply Kept.drewN | apply Kept.drew) | exact HK.out)⟩, ⟨zB HB⟩⟩
  case round =>
    clear H'
    try clear c1
    try clear p2
    obtain ⟨x0_1, x1_1, rfl, HA, HK1, HO_0, HK, HB⟩ := hrel;cases gk with
    | zero => exact absurd HA.out (by simp [wire_number.l0])
    | succ k1 =>
      have H := HA.out;clear HA;simp only [wire_number.l0] at H;by_cases c3 : x1_1 ≥ 128
      · rw [zp c3] at H;have c3b0 : decide (128 ≤ x1_1) = true := zt c3;clear c3;by_cases c4 : x0_1.length < 140737488355328;rotate_left
        · rw [zn c4] at H;exact absurd H (by simp)
        rw [zp c4] at H;have LMc4 := zN c4;clear c4;obtain ⟨y238, hy238⟩ : ∃ y_ : List Int, y_ = (x0_1 ++ [(Go.bits .or .i64 (Go.bits .and .i64 x1_1 127) 128) % 256]) := ⟨_, rfl⟩;replace H : (wire_number.l0 k1 y238 (x1_1 / 128)) = some r := by first | (rw [hy238]; with_reducible exact H) | (have H2_ := (Option.bind_some _ _).symm.trans H; rw [hy238]; with_reducible exact H2_) | (have H2_ := (Option.bind_some _ _).symm.trans H; with_reducible exact H2_) | with_reducible exact H | (rw [hy238]; exact H) | exact H
        have Ny238 := zN hy238;clear hy238;have H' := zN H;clear H;go_wp2_with (first | ((with_reducible refine gate_builtin (b := .append) (xs := #[.tmp 7, .tmp 12]) rfl ?_); at_builtin; refine Kd.R_append (Kd.int .u8) (w0 := w0) w0.heap.size rfl (.tmp 7) (.tmp 12) 46 5 (.int .u8 0) 1 rfl Tryz.underlying46 info5 rfl (by decide) zO u0 x0_1 ((Go.bits .or .i64 (Go.bits .and .i64 x1_1 127) 128) % 256) [.int .u8 ((Go.bits .or .i64 (Go.bits .and .i64 x1_1 127) 128) % 256)] (fun k_ => (P0_ k_ ∨ w.heap.size ≤ k_)) (fun _ => False) rfl rfl ?aP (fun _ hk => hk.elim) ?aF ?aO ?aB ?aS ?aL ?_; (case aP => exact rfl); (case aB => exact (zB HB)); (case aF => exact (fun k_ hk => (.inr (Nat.le_trans (by first | exact HK.out.1 | exact (show Kept w _ (fun k_ => P0_ k_) from by repeat (first | (with_reducible first | exact HK.out | apply Kept.alloc | apply Kept.drewN | apply Kept.drew) | exact HK.out)).1) hk)))); (case aO => exact (zR HO_0)); (case aS => exact (below_size (zB HB))); (case aL => have := LMc4.out; omega); intro v239 w5 ho hb hg hat; rw [← Ny238.out] at ho; replace HB := zN hb; replace HK := zN (Kept.of_grown (S := (fun k_ => P0_ k_)) hg (by repeat (first | (with_reducible first | exact HK.out | apply Kept.alloc | apply Kept.drewN | apply Kept.drew) | exact HK.out)) (fun k_ e_ => (HO_0.out.1 k_ e_))); have HO240 := zN ho; clear HO_0; clear ho hb hg hat));go_roundg k1
        case measure => have := HK1.out; omega
        case rel => exact ⟨(y238), (x1_1 / 128), zI, H', ⟨by have := HK1.out; omega⟩, ⟨zR HO240⟩, ⟨by repeat (first | (with_reducible first | exact HK.out | apply Kept.alloc | apply Kept.drewN | apply Kept.drew) | exact HK.out)⟩, ⟨zB HB⟩⟩
      rw [zn c3] at H;have c3b0 : decide (128 ≤ x1_1) = false := zf c3;clear c3;by_cases c6 : x0_1.length < 140737488355328
      · rw [zp c6] at H;have LMc6 := zN c6;clear c6;obtain ⟨y241, hy241⟩ : ∃ y_ : List Int, y_ = (x0_1 ++ [(x1_1) % 256]) := ⟨_, rfl⟩;replace H : (some y241) = some r := by first | (rw [hy241]; with_reducible exact H) | (have H2_ := (Option.bind_some _ _).symm.trans H; rw [hy241]; with_reducible exact H2_) | (have H2_ := (Option.bind_some _ _).symm.trans H; with_reducible exact H2_) | with_reducible exact H | (rw [hy241]; exact H) | exact H
        have Ny241 := zN hy241;clear hy241;obtain rfl := zo H;go_wp2_with (first | ((with_reducible refine gate_builtin (b := .append) (xs := #[.tmp 16, .tmp 19]) rfl ?_); at_builtin; refine Kd.R_append (Kd.int .u8) (w0 := w0) w0.heap.size rfl (.tmp 16) (.tmp 19) 46 5 (.int .u8 0) 1 rfl Tryz.underlying46 info5 rfl (by decide) zO u0 x0_1 ((x1_1) % 256) [.int .u8 ((x1_1) % 256)] (fun k_ => (P0_ k_ ∨ w.heap.size ≤ k_)) (fun _ => False) rfl rfl ?aP (fun _ hk => hk.elim) ?aF ?aO ?aB ?aS ?aL ?_; (case aP => exact rfl); (case aB => exact (zB HB)); (case aF => exact (fun k_ hk => (.inr (Nat.le_trans (by first | exact HK.out.1 | exact (show Kept w _ (fun k_ => P0_ k_) from by repeat (first | (with_reducible first | exact HK.out | apply Kept.alloc | apply Kept.drewN | apply Kept.drew) | exact HK.out)).1) hk)))); (case aO => exact (zR HO_0)); (case aS => exact (below_size (zB HB))); (case aL => have := LMc6.out; omega); intro v242 w7 ho hb hg hat; rw [← Ny241.out] at ho; replace HB := zN hb; replace HK := zN (Kept.of_grown (S := (fun k_ => P0_ k_)) hg (by repeat (first | (with_reducible first | exact HK.out | apply Kept.alloc | apply Kept.drewN | apply Kept.drew) | exact HK.out)) (fun k_ e_ => (HO_0.out.1 k_ e_))); have HO243 := zN ho; clear HO_0; clear ho hb hg hat));go_ret;exact ⟨_, zE, zR HO243, zB HB, by repeat (first | (with_reducible first | exact HK.out | apply Kept.alloc | apply Kept.drewN | apply Kept.drew) | exact HK.out)⟩
      rw [zn c6] at H;exact absurd H (by simp)

def wire_Number.f (k : Nat) (a0 : Int) : Option (List Int × Int) := if a0 < 0 then (some (([] : List Int), 2)) else (if a0 > 1099511627776 then (some (([] : List Int), 2)) else ((wire_number.f k ([] : List Int) a0).bind fun t244 => (some (t244, 0))))
theorem wire_Number.mono : ∀ a0 k, LeO (wire_Number.f k a0) (wire_Number.f (k + 1) a0) := by
  intro a0 k;unfold wire_Number.f
  repeat' with_reducible first | exact wire_number.mono _ _ _ | exact LeO.refl _ | exact LeO.none _ | refine LeO.ite ?_ ?_ | refine LeO.bind ?_ (fun _ => ?_)
set_option maxHeartbeats 8000000 in
set_option maxRecDepth 100000 in
theorem wire_Number.calls (k : Nat) (a0 : Int) (r1 : List Int) (r2 : Int) (w : World) (h : wire_Number.f k a0 = some (r1, r2)) :
    Calls Tryz.prog 92 #[.int .i64 a0] w fun e w' => ∃ v0_ : Value, e = .returned (.tuple #[v0_, .int .i64 r2]) ∧ Kd.R (Kd.int .u8) 5 w' w.heap.size (fun _ => True) v0_ r1 ∧ Below w.heap.size w w' := by
  have HB := zN (Below.refl w.heap.size w);have H : (if a0 < 0 then (some (([] : List Int), 2)) else (if a0 > 1099511627776 then (some (([] : List Int), 2)) else ((wire_number.f k ([] : List Int) a0).bind fun t244 => (some (t244, 0))))) = some (r1, r2) := h;clear h;by_cases c2 : a0 < 0
  · rw [zp c2] at H;have c2b0 := zt c2;clear c2;simp only [Option.some.injEq, Prod.mk.injEq] at H;obtain ⟨rfl, rfl⟩ := H;go_enter Tryz.func92, Tryz.ntmps92;go_wp2;go_ret2;exact ⟨_, zE, by first | exact Kd.R_nil _ _ _ _ _ | exact Kd.N_nil _ _ _ _ _ | exact Kd.V_nil _ _ _ _ _ | exact Kd.Q_nil _ _ _ _ _ | exact Kd.S_nil _ _ _ _ _, zB HB⟩
  rw [zn c2] at H;have c2b0 := zf c2;clear c2;by_cases c3 : a0 > 1099511627776
  · rw [zp c3] at H;have c3b0 : decide (1099511627776 < a0) = true := zt c3;clear c3;simp only [Option.some.injEq, Prod.mk.injEq] at H;obtain ⟨rfl, rfl⟩ := H;go_enter Tryz.func92, Tryz.ntmps92;go_wp2;go_ret2;exact ⟨_, zE, by first | exact Kd.R_nil _ _ _ _ _ | exact Kd.N_nil _ _ _ _ _ | exact Kd.V_nil _ _ _ _ _ | exact Kd.Q_nil _ _ _ _ _ | exact Kd.S_nil _ _ _ _ _, zB HB⟩
  rw [zn c3] at H;have c3b0 : decide (1099511627776 < a0) = false := zf c3;clear c3;obtain ⟨t244, A4, H⟩ := zA H;(try dsimp only at H);simp only [Option.some.injEq, Prod.mk.injEq] at H;obtain ⟨rfl, rfl⟩ := H;go_enter Tryz.func92, Tryz.ntmps92;go_wp2_with (first | ((with_reducible refine gate_callee (f := 123) rfl ?_); refine zg (some 11) Tryz.func123 #[.slice none 0 0, .int .i64 a0] ?_; (refine (wire_number.calls k (fun k_ => some k_ = (.slice none 0 0 : Value).ownBlock) (.slice none 0 0) ([] : List Int) a0 t244 w _ ?side1 ?side2 A4.out).mono ?_); (case side1 => repeat (first | (with_reducible first | exact HB.out | apply below_alloc | apply pw_below_drewN | apply below_drew1) | exact HB.out)); (case side2 => exact Kd.R_nil _ _ _ _ _); rintro e w5 ⟨v245, rfl, ho0, hb, hkp⟩; refine ⟨_, rfl, ?_⟩; have HO246 := zN (Kd.R_mono (ok' := fun k_ => True) ho0 (fun k_ hk_ => trivial)); replace HB := zN hb; (try clear hb); (try clear hkp); (try clear ho0)));go_ret2;exact ⟨_, zE, zR HO246, zB HB⟩

def conf_num.f (k : Nat) (l0 : List Int) (a1 : Int) : Option (List Int) := (wire_Number.f k a1).bind fun bt247 => (if l0.length + bt247.1.length < 140737488355328 then (some (l0 ++ bt247.1)) else (none))
theorem conf_num.mono : ∀ a0 a1 k, LeO (conf_num.f k a0 a1) (conf_num.f (k + 1) a0 a1) := by
  intro a0 a1 k;unfold conf_num.f
  repeat' with_reducible first | exact wire_Number.mono _ _ | exact LeO.refl _ | exact LeO.none _ | refine LeO.ite ?_ ?_ | refine LeO.bind ?_ (fun _ => ?_)
set_option maxHeartbeats 8000000 in
set_option maxRecDepth 100000 in
theorem conf_num.calls (k : Nat) (P0_ : Nat → Prop) (u9000_ : Value) (l0 : List Int) (a1 : Int) (r : List Int) (w0 w : World) (hB : Below w0.heap.size w0 w) (ho0 : Kd.R (Kd.int .u8) 5 w w0.heap.size P0_ u9000_ l0) (h : conf_num.f k l0 a1 = some r) :
    Calls Tryz.prog 69 #[u9000_, .int .i64 a1] w fun e w' => ∃ v0_ : Value, e = .returned (v0_) ∧ Kd.R (Kd.int .u8) 5 w' w0.heap.size (fun k_ => (P0_ k_ ∨ w.heap.size ≤ k_)) v0_ r ∧ Below w0.heap.size w0 w' ∧ Kept w w' (fun k_ => P0_ k_) := by
  have HO0 := zN (show Kd.R (Kd.int .u8) 5 w w0.heap.size (fun k_ => (P0_ k_ ∨ w.heap.size ≤ k_)) u9000_ l0 from Kd.R_mono ho0 (fun k_ hk => (.inl hk)));have HK := zN (Kept.refl w (fun k_ => P0_ k_));have HW0 := zN hB.size;have HB := zN hB;clear hB;have H : ((wire_Number.f k a1).bind fun bt247 => (if l0.length + bt247.1.length < 140737488355328 then (some (l0 ++ bt247.1)) else (none))) = some r := h;clear h;obtain ⟨⟨t247, t248⟩, A3, H⟩ := zA H;(try dsimp only at H);by_cases c4 : l0.length + t247.length < 140737488355328;rotate_left
  · rw [zn c4] at H;exact absurd H (by simp)
  rw [zp c4] at H;have LMc4 := zN c4;clear c4;obtain ⟨y251, hy251⟩ : ∃ y_ : List Int, y_ = (l0 ++ t247) := ⟨_, rfl⟩;replace H : (some y251) = some r := by first | (rw [hy251]; with_reducible exact H) | (have H2_ := (Option.bind_some _ _).symm.trans H; rw [hy251]; with_reducible exact H2_) | (have H2_ := (Option.bind_some _ _).symm.trans H; with_reducible exact H2_) | with_reducible exact H | (rw [hy251]; exact H) | exact H
  have Ny251 := zN hy251;clear hy251;obtain rfl := zo H;go_enter Tryz.func69, Tryz.ntmps69;go_wp2_with (first | ((with_reducible refine gate_callee (f := 92) rfl ?_); refine zg (some 9) Tryz.func92 #[.int .i64 a1] ?_; (with_reducible refine (wire_Number.calls k a1 t247 t248 _ A3.out).mono ?_); rintro e w5 ⟨v249, rfl, ho0, hb⟩; refine ⟨_, rfl, ?_⟩; have HO250 := zN (Kd.R_lower (Kd.R_new' (Kd.R_newM (M := fun k_ => (P0_ k_ ∨ w.heap.size ≤ k_)) ho0 (by first | exact HK.out.1 | exact (show Kept w _ (fun k_ => P0_ k_) from by repeat (first | (with_reducible first | exact HK.out | apply Kept.alloc | apply Kept.drewN | apply Kept.drew) | exact HK.out)).1) (fun k_ h_ => .inr h_)) (Kd.R_lt (zR HO0))) (below_size (zB HB))); replace HO0 := zN (Kd.R_elder' (zR HO0) (Kd.R_base ho0) hb); replace HK := zN (Kept.below (S := (fun k_ => P0_ k_)) (by repeat (first | (with_reducible first | exact HK.out | apply Kept.alloc | apply Kept.drewN | apply Kept.drew) | exact HK.out)) hb); replace HB := zk HB hb; (try clear hb); (try clear hb2); (try clear hk); (try clear hi); (try clear ho0); obtain ⟨Ao7, co7, eo7⟩ := Kd.R_slice HO250.out; subst eo7) | ((with_reducible refine gate_builtin (b := .append) (xs := #[.tmp 12, .tmp 13]) rfl ?_); at_builtin; refine Kd.R_append_rows (Kd.int .u8) (w0 := w0) w0.heap.size rfl (.tmp 12) (.tmp 13) 46 5 (.int .u8 0) 1 rfl Tryz.underlying46 info5 rfl (by decide) zO u9000_ l0 t247 _ _ _ (fun k_ => (P0_ k_ ∨ w.heap.size ≤ k_) ∧ some k_ ≠ (.slice Ao7 t247.length co7 : Value).ownBlock) (fun _ => False) rfl rfl ?aO ?aR (fun _ _ h => h) (fun _ h => h.elim) ?aF ?aB ?aS ?aL ?_; (case aR => exact zs (Kd.R_reads' HO250.out).2.2); (case aB => exact (zB HB)); (case aF => exact (fun k_ hk => ⟨(.inr (Nat.le_trans (by first | exact HK.out.1 | exact (show Kept w _ (fun k_ => P0_ k_) from by repeat (first | (with_reducible first | exact HK.out | apply Kept.alloc | apply Kept.drewN | apply Kept.drew) | exact HK.out)).1) hk)), Kd.fresh' (Kd.R_lt (zR HO250)) k_ hk⟩)); (case aO => exact (zR HO0)); (case aS => exact (below_size (zB HB))); (case aL => have := LMc4.out; omega); intro v252 w6 ho hb hg hat; rw [← Ny251.out] at ho; replace HO250 := zN (Kd.R_after (ok := (fun k_ => (P0_ k_ ∨ w.heap.size ≤ k_))) (by (with_reducible repeat (first | apply Kd.R_alloc | apply Kd.R_drewN | apply Kd.R_drew)); exact Kd.R_mono HO250.out (fun _ hk => ⟨hk.1.1, hk.2⟩)) hg hat); replace HB := zN hb; replace HK := zN (Kept.of_grown (S := (fun k_ => P0_ k_)) hg (by repeat (first | (with_reducible first | exact HK.out | apply Kept.alloc | apply Kept.drewN | apply Kept.drew) | exact HK.out)) (fun k_ e_ => (HO0.out.1 k_ e_).1)); have HO253 := zN ho; clear HO0; clear ho hb hg hat))
  go_ret;exact ⟨_, zE, by (with_reducible repeat (first | apply Kd.R_alloc | apply Kd.R_drewN | apply Kd.R_drew)); exact Kd.R_mono HO253.out (fun _ hk => hk.1), zB HB, by repeat (first | (with_reducible first | exact HK.out | apply Kept.alloc | apply Kept.drewN | apply Kept.drew) | exact HK.out)⟩

end Go.Proofs.YtpigfccpogmeaaaGreatDoor.S
end
section
namespace Go.Proofs.YtpigfccpogmeaaaGreatDoor.Ye
open Go.RowKit Go.Lib Go.Proofs.YtpigfccpogmeaaaGreatDoorW.PrintWords Go.Proofs.YtpigfccpogmeaaaGreatDoorW.PrintLast Go.Proofs.YtpigfccpogmeaaaGreatDoorW.PrintMore
variable {P : Program}
theorem run_at (w : World) (base : Nat) (t u ty e : TypeId) (i : TypeInfo) (ht : P.underlying t = some (.slice e)) (hu : P.underlying u = some .string) (hi : P.info? e = some i) (hz : i.zero = some (.int .u8 0))
    (hsize : i.size = 1) (hby : i.bytes = 1)
    (v : Value) (n : Nat) (xs : List Value) (hown : w.ownsRow base e 1 v n xs) (s : ByteArray)
    (h63 : n + s.size ≤ maxLen) (hbytes : n + s.size ≤ 140737488355328) (hbase : base ≤ w.heap.size) :
    ∃ v' w', (Builtin.append_ #[t, u] ty #[v, .string s]).run P w = .ok v' w' ∧ w'.ownsRow base e 1 v' (n + s.size) (xs ++ strCells s) ∧ w.grownBy w' v.ownBlock ∧
      (v'.ownBlock = v.ownBlock ∨ v'.ownBlock = some w.heap.size) := by
  have hsmall : n + s.size ≤ 9223372036854775807 := by simp only [maxLen] at h63; omega
  have hxl : xs.length = n := by simpa using hown.1
  have hlen : (xs ++ strCells s).length = (n + s.size) * 1 := by rw [List.length_append, hxl, strCells_length, Nat.mul_one]
  have grown : ∀ (old : Nat), old < n + s.size → ∀ (row : Option Nat),
      (w.drew.alloc (.cells (xs.toArray ++ (strCells s).toArray ++ Builtin.zeroCells (Value.int .u8 0).cells (grownCap w (n + s.size) old e - (n + s.size))) e)).ownsRow base e 1
        (.slice (some ⟨w.heap.size, 0, none⟩) (n + s.size) (grownCap w (n + s.size) old e)) (n + s.size) (xs ++ strCells s) ∧
      w.grownBy (w.drew.alloc (.cells (xs.toArray ++ (strCells s).toArray ++ Builtin.zeroCells (Value.int .u8 0).cells (grownCap w (n + s.size) old e - (n + s.size))) e)) row := by
    intro old ho row;have hge := grownCap_ge w (n + s.size) old e;have hcm : grownCap w (n + s.size) old e ≤ maxLen := grownCap_le_maxLen w (n + s.size) old e h63;refine ⟨⟨hlen, .inr ⟨w.heap.size, _, _, rfl, hbase, (by show (w.drew.heap.push _)[w.heap.size]? = _; exact Array.getElem?_push_size), hge, hcm, ?_, ?_⟩⟩, ⟨rfl, rfl, rfl, by simp, fun k hk _ => Below.heap_alloc _ _ k hk⟩⟩
    · have hz1 : (Value.int IntKind.u8 0).cells.size = 1 := rfl;simp only [Array.size_append, List.size_toArray, size_zeroCells, hz1, hxl, strCells_length];omega
    simp only [Array.toList_append, List.append_assoc];rw [← List.append_assoc, ← hlen];exact List.take_left
  rcases hown.2 with ⟨rfl, rfl⟩ | ⟨g, cap, cur, rfl, hbg, hg, hnc, hcm, hcs, htake⟩
  · have hx : xs = [] := List.eq_nil_of_length_eq_zero hxl;subst hx;by_cases hm : s.size = 0
    · have hn : strCells s = [] := List.eq_nil_of_length_eq_zero (by rw [strCells_length]; exact hm);refine ⟨.slice none 0 0, w, ?_, by rw [hm, hn]; exact World.ownsRow_nil w base e 1, ⟨rfl, rfl, rfl, zh _, fun _ _ _ => rfl⟩, .inl rfl⟩;have hf := run_firstCells_string (P := P) w 1 s;rw [hm] at hf;simp [Builtin.append_, run_underlying ht, run_underlying hu, sizeOf, typeInfo, hi, hsize, Builtin.lenOf, hm, hf]
    have hr := run_append_nil_string (P := P) w t u ty e i (.int .u8 0) ht hu hi hz s zO zO (by rw [hby]; omega);have hgr := grown 0 zO (Value.ownBlock (.slice none 0 0));simp only [Nat.zero_add, List.nil_append, Array.empty_append] at hgr ⊢;have e1 : (s.data.map fun b => Value.int .u8 b.toNat) = (strCells s).toArray := by
      apply Array.ext';simp [strCells]
    rw [e1] at hr;exact ⟨_, _, hr, hgr.1, hgr.2, .inr rfl⟩
  by_cases hroom : n + s.size ≤ cap
  · have hcs' : cur.size = cap := by simpa using hcs
    have hr := run_append_room_string (P := P) w t u ty e i ht hu hi hsize g n cap cur hg s hroom zO;refine ⟨_, _, hr, ⟨hlen, .inr ⟨g, cap, _, rfl, hbg, setRow_heap w g cur _ e _ hg, hroom, hcm, ?_, ?_⟩⟩, ⟨rfl, rfl, rfl, by simp, fun k _ hk => setRow_other w g k _ (fun e => hk (by simp [Value.ownBlock, e]))⟩, .inl rfl⟩
    · simp only [List.size_toArray, List.length_append, List.length_take, List.length_drop, Array.length_toList, strCells_length];omega
    have ht' : cur.toList.take n = xs := by simpa using htake
    rw [ht', ← hlen];exact List.take_left
  have holds : ∀ j u, xs[j]? = some u → w.cell? ((⟨g, 0, none⟩ : Addr).add j) = some u := hown.cells (g := g) rfl;have hr := run_append_grow_string (P := P) w t u ty e i (.int .u8 0) ht hu hi hz ⟨g, 0, none⟩ n cap xs (by rw [hsize]; simpa using hxl) holds s zO zO (by rw [hby]; exact growslice_fits zO zO);have hgr := grown cap zO (Value.ownBlock (.slice (some ⟨g, 0, none⟩) n cap));exact ⟨_, _, hr, hgr.1, hgr.2, .inr rfl⟩
theorem append_str {ops : Array Oper} {rest : List Oper} {o : Oper} {a : Act} {Q : Exit → Act → World → Prop} {w0 W : World} (base : Nat) (hgd : o.guard = none) (s x : Operand) (t u e : TypeId)
    (ho : o.op = .call { callee := .builtin .append, args := #[s, x], argTypes := #[t, u] })
    (ht : P.underlying t = some (.slice e)) (hu : P.underlying u = some .string) (hinfo : (P.info? e).map (fun i => (i.zero, i.size, i.bytes)) = some (some (.int .u8 0), 1, 1))
    (v : Value) (xs : List Int) (y : ByteArray) (hs : a.eval s = v) (hx : a.eval x = .string y)
    (HO : W.ownsRow base e 1 v xs.length (nums .u8 xs)) (HB : Below base w0 W) (hbase : base ≤ W.heap.size) (hl : xs.length + y.size ≤ 140737488355328)
    (h : ∀ v1 w1, w1.ownsRow base e 1 v1 (xs ++ Go.Proofs.YtpigfccpogmeaaaGreatDoorW.PrintWords.bytesOf y).length (nums .u8 (xs ++ Go.Proofs.YtpigfccpogmeaaaGreatDoorW.PrintWords.bytesOf y)) → Below base w0 w1 → W.grownBy w1 v.ownBlock → (v1.ownBlock = v.ownBlock ∨ v1.ownBlock = some W.heap.size) → wpList P ops Q rest (a.put o.dst v1) w1) :
    wpList P ops Q (o :: rest) a W := by
  obtain ⟨i0, hi, hzz⟩ := Option.map_eq_some_iff.1 hinfo;simp only [Prod.mk.injEq] at hzz;obtain ⟨hz0, hz1, hz2⟩ := hzz;refine wpList_plain hgd fun K hK => ?_
  obtain ⟨v1, w1, hr, hown, hg, hloc⟩ := run_at (P := P) W base t u o.type e i0 ht hu hi hz0 hz1 hz2 v xs.length (nums .u8 xs) HO y (by simp only [maxLen]; omega) hl hbase;unfold Oper.wp execOp;simp only [ho, resolve, invoke, builtin, Sem.run_bind, Sem.run_pure, Result.andThen_ok, List.map_toArray, List.map_cons, List.map_nil, hs, hx, hr];have hl2 : (xs ++ Go.Proofs.YtpigfccpogmeaaaGreatDoorW.PrintWords.bytesOf y).length = xs.length + y.size := by rw [List.length_append, Go.Proofs.YtpigfccpogmeaaaGreatDoorW.PrintWords.bytesOf_length]
  have hc : nums .u8 (xs ++ Go.Proofs.YtpigfccpogmeaaaGreatDoorW.PrintWords.bytesOf y) = nums .u8 xs ++ Lib.strCells y := by
    rw [nums_append]
    congr 1
    simp [nums, Go.Proofs.YtpigfccpogmeaaaGreatDoorW.PrintWords.bytesOf, Lib.strCells]
  exact hK _ _ (h v1 w1 (by rw [hl2, hc]; exact hown) (HB.grown hg hbase (own_base HO)) hg hloc)
theorem loc {p q : Nat → Prop} {v v1 : Value} {n : Nat} (h : ∀ k, v.ownBlock = some k → p k ∨ q k) (hn : q n) (hl : v1.ownBlock = v.ownBlock ∨ v1.ownBlock = some n) : ∀ k, v1.ownBlock = some k → p k ∨ q k := by
  intro k hk
  rcases hl with hl | hl
  · exact h k (hl ▸ hk)
  rw [hl] at hk;cases hk;exact .inr hn
end Go.Proofs.YtpigfccpogmeaaaGreatDoor.Ye
end
section
namespace Go.Proofs.YtpigfccpogmeaaaGreatDoor.S
open Go.RowKit Go.Proofs.YtpigfccpogmeaaaGreatDoorW.PrintWords Go.Proofs.YtpigfccpogmeaaaGreatDoorW.PrintLast Go.Proofs.YtpigfccpogmeaaaGreatDoorW.PrintMore
attribute [local go_sem] max2_int min2_int max_two min_two max_three min_three max_four min_four
attribute [local go_sem] fbin_eql fbin_neq fbin_lss fbin_leq fbin_gtr fbin_geq frun_add frun_sub frun_mul frun_quo frun_store fun_neg fcv_int fcv_same fb88 fb89
set_option linter.unusedVariables false
set_option linter.unusedSimpArgs false
def conf_text.f (k : Nat) (l0 : List Int) (a1 : ByteArray) : Option (List Int) := (conf_num.f k l0 (a1.size : Int)).bind fun t254 => (if t254.length + a1.size < 140737488355328 then (some (t254 ++ bytesOf a1)) else (none))
theorem conf_text.mono : ∀ a0 a1 k, LeO (conf_text.f k a0 a1) (conf_text.f (k + 1) a0 a1) := by
  intro a0 a1 k;unfold conf_text.f
  repeat' with_reducible first | exact conf_num.mono _ _ _ | exact LeO.refl _ | exact LeO.none _ | refine LeO.ite ?_ ?_ | refine LeO.bind ?_ (fun _ => ?_)
set_option maxHeartbeats 8000000 in
set_option maxRecDepth 100000 in
theorem conf_text.calls (k : Nat) (P0_ : Nat → Prop) (u9000_ : Value) (l0 : List Int) (a1 : ByteArray) (r : List Int) (w0 w : World) (hB : Below w0.heap.size w0 w) (ho0 : Kd.R (Kd.int .u8) 5 w w0.heap.size P0_ u9000_ l0) (h : conf_text.f k l0 a1 = some r) :
    Calls Tryz.prog 71 #[u9000_, .string a1] w fun e w' => ∃ v0_ : Value, e = .returned (v0_) ∧ Kd.R (Kd.int .u8) 5 w' w0.heap.size (fun k_ => (P0_ k_ ∨ w.heap.size ≤ k_)) v0_ r ∧ Below w0.heap.size w0 w' ∧ Kept w w' (fun k_ => P0_ k_) := by
  have HO0 := zN (show Kd.R (Kd.int .u8) 5 w w0.heap.size (fun k_ => (P0_ k_ ∨ w.heap.size ≤ k_)) u9000_ l0 from Kd.R_mono ho0 (fun k_ hk => (.inl hk)));have HK := zN (Kept.refl w (fun k_ => P0_ k_));have HW0 := zN hB.size;have HB := zN hB;clear hB;have H : ((conf_num.f k l0 (a1.size : Int)).bind fun t254 => (if t254.length + a1.size < 140737488355328 then (some (t254 ++ bytesOf a1)) else (none))) = some r := h;clear h;obtain ⟨t254, A3, H⟩ := zA H;(try dsimp only at H);by_cases c4 : t254.length + a1.size < 140737488355328;rotate_left
  · rw [zn c4] at H;exact absurd H (by simp)
  rw [zp c4] at H;have LMc4 := zN c4;clear c4;obtain ⟨y257, hy257⟩ : ∃ y_ : List Int, y_ = (t254 ++ bytesOf a1) := ⟨_, rfl⟩;replace H : (some y257) = some r := by first | (rw [hy257]; with_reducible exact H) | (have H2_ := (Option.bind_some _ _).symm.trans H; rw [hy257]; with_reducible exact H2_) | (have H2_ := (Option.bind_some _ _).symm.trans H; with_reducible exact H2_) | with_reducible exact H | (rw [hy257]; exact H) | exact H
  have Ny257 := zN hy257;clear hy257;obtain rfl := zo H;obtain ⟨Ao5, co5, eo5⟩ := Kd.R_slice HO0.out;subst eo5;go_enter Tryz.func71, Tryz.ntmps71;go_wp2_with (first | ((with_reducible refine gate_callee (f := 69) rfl ?_); refine zg (some 8) Tryz.func69 #[.slice Ao5 l0.length co5, .int .i64 (a1.size : Int)] ?_; (with_reducible refine (conf_num.calls k (fun k_ => some k_ = (.slice Ao5 l0.length co5 : Value).ownBlock) (.slice Ao5 l0.length co5) l0 (a1.size : Int) t254 w0 _ ?side1 ?side2 A3.out).mono ?_); (case side1 => repeat (first | (with_reducible first | exact HB.out | apply below_alloc | apply pw_below_drewN | apply below_drew1) | exact HB.out)); (case side2 => exact Kd.R_tight rfl HO0.out); rintro e w6 ⟨v255, rfl, ho0, hb, hkp⟩; refine ⟨_, rfl, ?_⟩; have HO256 := zN (Kd.R_mono (ok' := fun k_ => (P0_ k_ ∨ w.heap.size ≤ k_)) ho0 (fun k_ hk_ => Or.elim hk_ (fun hs_ => (HO0.out.1 k_ (hs_).symm)) (fun hn_ => (.inr (Nat.le_trans (by first | exact HK.out.1 | exact (show Kept w _ (fun k_ => P0_ k_) from by repeat (first | (with_reducible first | exact HK.out | apply Kept.alloc | apply Kept.drewN | apply Kept.drew) | exact HK.out)).1) hn_))))); replace HK := zN (Kept.then_ (S := (fun k_ => P0_ k_)) (by repeat (first | (with_reducible first | exact HK.out | apply Kept.alloc | apply Kept.drewN | apply Kept.drew) | exact HK.out)) hkp (fun k_ hs_ => (fun e_ => (HO0.out.1 k_ e_.symm)) hs_)); replace HB := zN hb; clear HO0; (try clear hb); (try clear hkp); (try clear ho0)) | (at_builtin; refine Ye.append_str (w0 := w0) w0.heap.size rfl (.tmp 8) _ 46 9 5 rfl Tryz.underlying46 Tryz.underlying9 info5 v255 t254 a1 rfl rfl ?aO ?aB ?aS ?aL ?_; (case aB => exact (zB HB)); (case aO => exact (Kd.own_of_R (zR HO256))); (case aS => exact (below_size (zB HB))); (case aL => have := LMc4.out; omega); intro v258 w7 ho0 hb hg hloc_; have ho := Kd.R_of_own (h1 := fun _ => rfl) ho0 (Ye.loc HO256.out.1 HK.out.1 hloc_); clear ho0 hloc_; have hat := True.intro; rw [← Ny257.out] at ho; change Kd.R (Kd.int .u8) 5 w7 w0.heap.size (fun k_ => (P0_ k_ ∨ w.heap.size ≤ k_)) v258 y257 at ho; replace HB := zN hb; replace HK := zN (Kept.of_grown (S := (fun k_ => P0_ k_)) hg (by repeat (first | (with_reducible first | exact HK.out | apply Kept.alloc | apply Kept.drewN | apply Kept.drew) | exact HK.out)) (fun k_ e_ => (HO256.out.1 k_ e_))); have HO259 := zN ho; clear HO256; clear ho hb hg hat));go_ret;exact ⟨_, zE, zR HO259, zB HB, by repeat (first | (with_reducible first | exact HK.out | apply Kept.alloc | apply Kept.drewN | apply Kept.drew) | exact HK.out)⟩

def conf_float.l0 : Nat → List Int → Nat → Int → Option (List Int)
  | 0, _, _, _ => none
  | k + 1, x0, x1, x5 => if x5 ≥ 0 then (if 0 ≤ x5 then (if x0.length < 140737488355328 then (conf_float.l0 k (x0 ++ [(shr .u64 (x1 : Int) x5) % 256]) x1 (wrap64 (x5 - 8))) else (none)) else (none)) else (some x0)
def conf_float.f (k : Nat) (l0 : List Int) (a1 : Nat) : Option (List Int) := conf_float.l0 k l0 a1 56
theorem conf_float.mono_l : ∀ k, (∀ y0 y1 y2, LeO (conf_float.l0 k y0 y1 y2) (conf_float.l0 (k + 1) y0 y1 y2))
  | 0 => fun _ _ _ r h => by simp [conf_float.l0] at h
  | k + 1 => by
    have ih0 := conf_float.mono_l k;intro y0 y1 y2;unfold conf_float.l0
    repeat' with_reducible first | exact ih0 _ _ _ | exact LeO.refl _ | exact LeO.none _ | refine LeO.ite ?_ ?_ | refine LeO.bind ?_ (fun _ => ?_)
theorem conf_float.mono : ∀ a0 a1 k, LeO (conf_float.f k a0 a1) (conf_float.f (k + 1) a0 a1) := by
  intro a0 a1 k;have ih0 := conf_float.mono_l k;unfold conf_float.f
  repeat' with_reducible first | exact ih0 _ _ _ | exact LeO.refl _ | exact LeO.none _ | refine LeO.ite ?_ ?_ | refine LeO.bind ?_ (fun _ => ?_)
set_option maxHeartbeats 8000000 in
set_option maxRecDepth 100000 in
theorem conf_float.calls (k : Nat) (P0_ : Nat → Prop) (u9000_ : Value) (l0 : List Int) (a1 : Nat) (r : List Int) (w0 w : World) (hB : Below w0.heap.size w0 w) (ho0 : Kd.R (Kd.int .u8) 5 w w0.heap.size P0_ u9000_ l0) (h : conf_float.f k l0 a1 = some r) :
    Calls Tryz.prog 93 #[u9000_, .float .f64 a1] w fun e w' => ∃ v0_ : Value, e = .returned (v0_) ∧ Kd.R (Kd.int .u8) 5 w' w0.heap.size (fun k_ => (P0_ k_ ∨ w.heap.size ≤ k_)) v0_ r ∧ Below w0.heap.size w0 w' ∧ Kept w w' (fun k_ => P0_ k_) := by
  have HO0 := zN (show Kd.R (Kd.int .u8) 5 w w0.heap.size (fun k_ => (P0_ k_ ∨ w.heap.size ≤ k_)) u9000_ l0 from Kd.R_mono ho0 (fun k_ hk => (.inl hk)));have HK := zN (Kept.refl w (fun k_ => P0_ k_));have HW0 := zN hB.size;have HB := zN hB;clear hB;have H : (conf_float.l0 k l0 a1 56) = some r := h;clear h;have H' := zN H;clear H;go_enter Tryz.func93, Tryz.ntmps93;go_wp2;go_loopg [0, 5] k (fun kq v0 v5 w' => ∃ (x0_1 : List Int) (x5_1 : Int), v5 = .int .i64 x5_1 ∧ Aside0 (conf_float.l0 kq x0_1 a1 x5_1 = some r) ∧ Aside0 (kq ≤ k) ∧ Aside0 (Kd.R (Kd.int .u8) 5 w' w0.heap.size (fun k_ => (P0_ k_ ∨ w.heap.size ≤ k_)) v0 x0_1) ∧ Aside0 (Kept w w' (fun k_ => P0_ k_)) ∧ Aside0 (Below w0.heap.size w0 w'))
  case atStart => exact ⟨(l0), (56), zI, H', ⟨zh _⟩, ⟨zR HO0⟩, ⟨by repeat (first | (with_reducible first | exact HK.out | apply Kept.alloc | apply Kept.drewN | apply Kept.drew) | exact HK.out)⟩, ⟨zB HB⟩⟩
  case round =>
    clear H'
    try clear p2
    obtain ⟨x0_1, x5_1, rfl, HA, HK1, HO_0, HK, HB⟩ := hrel;cases gk with
    | zero => exact absurd HA.out (by simp [conf_float.l0])
    | succ k1 =>
      have H := HA.out;clear HA;simp only [conf_float.l0] at H;by_cases c3 : x5_1 ≥ 0;rotate_left
      · rw [zn c3] at H;have c3b0 : decide (0 ≤ x5_1) = false := zf c3;clear c3;obtain rfl := zo H;go_wp2;go_ret;exact ⟨_, zE, zR HO_0, zB HB, by repeat (first | (with_reducible first | exact HK.out | apply Kept.alloc | apply Kept.drewN | apply Kept.drew) | exact HK.out)⟩
      rw [zp c3] at H;have c3b0 : decide (0 ≤ x5_1) = true := zt c3;clear c3;by_cases c4 : 0 ≤ x5_1;rotate_left
      · rw [zn c4] at H;exact absurd H (by simp)
      rw [zp c4] at H;have c4b0 := zu c4;have c4b1 := zt c4;clear c4;obtain ⟨ji5, hji5⟩ : ∃ j_ : Int, (shr .u64 (a1 : Int) x5_1) = j_ := ⟨_, rfl⟩;replace H : (if x0_1.length < 140737488355328 then (conf_float.l0 k1 (x0_1 ++ [(ji5) % 256]) a1 (wrap64 (x5_1 - 8))) else (none)) = some r := by first | (rw [hji5] at H; exact H) | (simp only [hji5] at H ⊢; exact H)
      have hji5_ : ((a1 : Int) / 2 ^ min x5_1.toNat 64) = ji5 := hji5;have hji5z : x5_1 ≤ 64 → ((a1 : Int) / 2 ^ x5_1.toNat) = ji5 := shr_small hji5;by_cases c6 : x0_1.length < 140737488355328;rotate_left
      · rw [zn c6] at H;exact absurd H (by simp)
      rw [zp c6] at H;have LMc6 := zN c6;clear c6;obtain ⟨y260, hy260⟩ : ∃ y_ : List Int, y_ = (x0_1 ++ [(ji5) % 256]) := ⟨_, rfl⟩;replace H : (conf_float.l0 k1 y260 a1 (wrap64 (x5_1 - 8))) = some r := by first | (rw [hy260]; with_reducible exact H) | (have H2_ := (Option.bind_some _ _).symm.trans H; rw [hy260]; with_reducible exact H2_) | (have H2_ := (Option.bind_some _ _).symm.trans H; with_reducible exact H2_) | with_reducible exact H | (rw [hy260]; exact H) | exact H
      have Ny260 := zN hy260;clear hy260;have H' := zN H;clear H;go_wp2_with (first | ((with_reducible refine gate_builtin (b := .append) (xs := #[.tmp 10, .tmp 16]) rfl ?_); at_builtin; refine Kd.R_append (Kd.int .u8) (w0 := w0) w0.heap.size rfl (.tmp 10) (.tmp 16) 46 5 (.int .u8 0) 1 rfl Tryz.underlying46 info5 rfl (by decide) zO u0 x0_1 ((ji5) % 256) [.int .u8 ((ji5) % 256)] (fun k_ => (P0_ k_ ∨ w.heap.size ≤ k_)) (fun _ => False) rfl rfl ?aP (fun _ hk => hk.elim) ?aF ?aO ?aB ?aS ?aL ?_; (case aP => exact rfl); (case aB => exact (zB HB)); (case aF => exact (fun k_ hk => (.inr (Nat.le_trans (by first | exact HK.out.1 | exact (show Kept w _ (fun k_ => P0_ k_) from by repeat (first | (with_reducible first | exact HK.out | apply Kept.alloc | apply Kept.drewN | apply Kept.drew) | exact HK.out)).1) hk)))); (case aO => exact (zR HO_0)); (case aS => exact (below_size (zB HB))); (case aL => have := LMc6.out; omega); intro v261 w7 ho hb hg hat; rw [← Ny260.out] at ho; replace HB := zN hb; replace HK := zN (Kept.of_grown (S := (fun k_ => P0_ k_)) hg (by repeat (first | (with_reducible first | exact HK.out | apply Kept.alloc | apply Kept.drewN | apply Kept.drew) | exact HK.out)) (fun k_ e_ => (HO_0.out.1 k_ e_))); have HO262 := zN ho; clear HO_0; clear ho hb hg hat));go_roundg k1
      case measure => have := HK1.out; omega
      case rel => exact ⟨(y260), (wrap64 (x5_1 - 8)), zI, H', ⟨by have := HK1.out; omega⟩, ⟨zR HO262⟩, ⟨by repeat (first | (with_reducible first | exact HK.out | apply Kept.alloc | apply Kept.drewN | apply Kept.drew) | exact HK.out)⟩, ⟨zB HB⟩⟩

def conf_row.l0 : Nat → List Int → List (S62) → Int → Int → Option (List Int)
 | 0, _, _, _, _ => none
 | k + 1, x0, x11, x12, x13 => if x13 < x12 then (if 0 ≤ x13 then (if x13 < (x11.length : Int) then ((conf_text.f k x0 ((rd_T62 x11 x13).f0)).bind fun t268 => ((conf_float.f k t268 ((rd_T62 x11 x13).f1)).bind fun t271 => (conf_row.l0 k t271 x11 x12 (wrap64 (x13 + 1))))) else (none)) else (none)) else (some x0)
def conf_row.f (k : Nat) (l0 : List Int) (l1 : List (S62)) : Option (List Int) := (conf_num.f k l0 (l1.length : Int)).bind fun t263 => (conf_row.l0 k t263 l1 (l1.length : Int) 0)
theorem conf_row.mono_l : ∀ k, (∀ y0 y1 y2 y3, LeO (conf_row.l0 k y0 y1 y2 y3) (conf_row.l0 (k + 1) y0 y1 y2 y3))
 | 0 => fun _ _ _ _ r h => by simp [conf_row.l0] at h
 | k + 1 => by
  have ih0 := conf_row.mono_l k;intro y0 y1 y2 y3;unfold conf_row.l0
  repeat' with_reducible first | exact ih0 _ _ _ _ | exact conf_float.mono _ _ _ | exact conf_num.mono _ _ _ | exact conf_text.mono _ _ _ | exact LeO.refl _ | exact LeO.none _ | refine LeO.ite ?_ ?_ | refine LeO.bind ?_ (fun _ => ?_)
theorem conf_row.mono : ∀ a0 a1 k, LeO (conf_row.f k a0 a1) (conf_row.f (k + 1) a0 a1) := by
 intro a0 a1 k;have ih0 := conf_row.mono_l k;unfold conf_row.f
 repeat' with_reducible first | exact ih0 _ _ _ _ | exact conf_float.mono _ _ _ | exact conf_num.mono _ _ _ | exact conf_text.mono _ _ _ | exact LeO.refl _ | exact LeO.none _ | refine LeO.ite ?_ ?_ | refine LeO.bind ?_ (fun _ => ?_)
def conf_row.T5 : Bool × List (List Nat × List Nat) := (true, [([], []), ([], []), ([1], [1]), ([0, 2], [0, 2]), ([], []), ([4], [4]), ([3, 5, 3], [3, 5]), ([6, 6, 0, 1, 2, 3, 4, 5, 6], [0, 6])])
def conf_row.B5 : List Nat := [0, 0, 2, 7, 0, 16, 63, 127]
theorem conf_row.tab5 : rtab .any (opsOf Tryz.f70 5) = conf_row.T5 := by kernel_rfl
theorem conf_row.bits5 : waitsOk conf_row.T5.2 conf_row.B5 = true := by kernel_rfl
set_option maxHeartbeats 8000000 in
set_option maxRecDepth 100000 in
theorem conf_row.calls (k : Nat) (P0_ : Nat → Prop) (u9000_ : Value) (l0 : List Int) (A1 : Option Addr) (c1 : Nat) (l1 : List (S62)) (r : List Int) (w0 w : World) (hB : Below w0.heap.size w0 w) (ho0 : Kd.R (Kd.int .u8) 5 w w0.heap.size P0_ u9000_ l0) (hr1 : ∀ W_, Kept w W_ (fun k_ => P0_ k_) → Kd.C k62 W_ A1 l1.length l1) (hc1 : l1.length ≤ c1) (h : conf_row.f k l0 l1 = some r) :
  Calls Tryz.prog 70 #[u9000_, .slice A1 l1.length c1] w fun e w' => ∃ v0_ : Value, e = .returned (v0_) ∧ Kd.R (Kd.int .u8) 5 w' w0.heap.size (fun k_ => (P0_ k_ ∨ w.heap.size ≤ k_)) v0_ r ∧ Below w0.heap.size w0 w' ∧ Kept w w' (fun k_ => P0_ k_) := by
 have hu62 := Tryz.underlying62;have HO0 := zN (show Kd.R (Kd.int .u8) 5 w w0.heap.size (fun k_ => (P0_ k_ ∨ w.heap.size ≤ k_)) u9000_ l0 from Kd.R_mono ho0 (fun k_ hk => (.inl hk)));have HR1 := zN hr1;have HC1 := zN hc1;clear hr1 hc1;have HK := zN (Kept.refl w (fun k_ => P0_ k_));have HW0 := zN hB.size;have HB := zN hB;clear hB;have H : ((conf_num.f k l0 (l1.length : Int)).bind fun t263 => (conf_row.l0 k t263 l1 (l1.length : Int) 0)) = some r := h;clear h;obtain ⟨t263, A3, H⟩ := zA H;(try dsimp only at H);have H' := zN H;clear H;obtain ⟨Ao4, co4, eo4⟩ := Kd.R_slice HO0.out;subst eo4;go_enter Tryz.func70, Tryz.ntmps70;go_wp2_with (first | ((with_reducible refine gate_callee (f := 69) rfl ?_); refine zg (some 10) Tryz.func69 #[.slice Ao4 l0.length co4, .int .i64 (l1.length : Int)] ?_; (with_reducible refine (conf_num.calls k (fun k_ => some k_ = (.slice Ao4 l0.length co4 : Value).ownBlock) (.slice Ao4 l0.length co4) l0 (l1.length : Int) t263 w0 _ ?side1 ?side2 A3.out).mono ?_); (case side1 => repeat (first | (with_reducible first | exact HB.out | apply below_alloc | apply pw_below_drewN | apply below_drew1) | exact HB.out)); (case side2 => exact Kd.R_tight rfl HO0.out); rintro e w5 ⟨v264, rfl, ho0, hb, hkp⟩; refine ⟨_, rfl, ?_⟩; have HO265 := zN (Kd.R_mono (ok' := fun k_ => (P0_ k_ ∨ w.heap.size ≤ k_)) ho0 (fun k_ hk_ => Or.elim hk_ (fun hs_ => (HO0.out.1 k_ (hs_).symm)) (fun hn_ => (.inr (Nat.le_trans (by first | exact HK.out.1 | exact (show Kept w _ (fun k_ => P0_ k_) from by repeat (first | (with_reducible first | exact HK.out | apply Kept.alloc | apply Kept.drewN | apply Kept.drew) | exact HK.out)).1) hn_))))); replace HK := zN (Kept.then_ (S := (fun k_ => P0_ k_)) (by repeat (first | (with_reducible first | exact HK.out | apply Kept.alloc | apply Kept.drewN | apply Kept.drew) | exact HK.out)) hkp (fun k_ hs_ => (fun e_ => (HO0.out.1 k_ e_.symm)) hs_)); replace HB := zN hb; clear HO0; (try clear hb); (try clear hkp); (try clear ho0)));go_loopg [0, 13] k (fun kq v0 v13 w' => ∃ (x0_1 : List Int) (x13_1 : Int), v13 = .int .i64 x13_1 ∧ Aside0 (conf_row.l0 kq x0_1 l1 (l1.length : Int) x13_1 = some r) ∧ Aside0 (kq ≤ k) ∧ Aside0 (Kd.R (Kd.int .u8) 5 w' w0.heap.size (fun k_ => (P0_ k_ ∨ w.heap.size ≤ k_)) v0 x0_1) ∧ Aside0 (Kept w w' (fun k_ => P0_ k_)) ∧ Aside0 (Below w0.heap.size w0 w'))
 case atStart => exact ⟨(t263), (0), zI, H', ⟨zh _⟩, ⟨zR HO265⟩, ⟨by repeat (first | (with_reducible first | exact HK.out | apply Kept.alloc | apply Kept.drewN | apply Kept.drew) | exact HK.out)⟩, ⟨zB HB⟩⟩
 case round =>
  clear H'
  try clear c1
  obtain ⟨x0_1, x13_1, rfl, HA, HK1, HO_0, HK, HB⟩ := hrel;cases gk with
  | zero => exact absurd HA.out (by simp [conf_row.l0])
  | succ k1 =>
   have H := HA.out;clear HA;simp only [conf_row.l0] at H;by_cases c6 : x13_1 < (l1.length : Int);rotate_left
   ·rw [zn c6] at H;have c6b0 := zf c6;clear c6;obtain rfl := zo H;go_wp2;go_ret;exact ⟨_, zE, zR HO_0, zB HB, by repeat (first | (with_reducible first | exact HK.out | apply Kept.alloc | apply Kept.drewN | apply Kept.drew) | exact HK.out)⟩
   rw [zp c6] at H;have c6b0 := zt c6;clear c6;by_cases c7 : 0 ≤ x13_1;rotate_left
   ·rw [zn c7] at H;exact absurd H (by simp)
   rw [zp c7] at H;have c7b0 := zt c7;clear c7;by_cases c8 : x13_1 < (l1.length : Int);rotate_left
   ·rw [zn c8] at H;exact absurd H (by simp)
   rw [zp c8] at H;have c8b0 := zt c8;clear c8;obtain ⟨t268, A9, H⟩ := zA H;(try dsimp only at H);obtain ⟨t271, A10, H⟩ := zA H;(try dsimp only at H);have H' := zN H;clear H;have p266 : 0 ≤ (x13_1 : Int) := zd zS;have q266 : x13_1 < (l1.length : Int) := zd zS;obtain ⟨ad266, e266, hx266_0, hx266_1⟩ := at_T62 (Kd.C_kept_now HR1.out HK.out) x13_1 p266 q266;cases e266;replace p266 := zu p266;replace q266 := zu q266
   try go_wp2_with (first | ((with_reducible refine gate_dst (N := 6) rfl ?_); refine zX #[.string (⟨#[]⟩ : ByteArray), .float .f64 0] 62 rfl ?_; intro gb267 hg w11 hbox hb; replace HO_0 := zN (Kd.R_below (zR HO_0) hb); have BK267 := zN hbox; have GW267 := zN (by rw [hg]; exact (by first | exact HK.out.1 | exact (show Kept w _ (fun k_ => P0_ k_) from by repeat (first | (with_reducible first | exact HK.out | apply Kept.alloc | apply Kept.drewN | apply Kept.drew) | exact HK.out)).1) : w.heap.size ≤ gb267); replace HK := zN (Kept.below (S := (fun k_ => P0_ k_)) (by repeat (first | (with_reducible first | exact HK.out | apply Kept.alloc | apply Kept.drewN | apply Kept.drew) | exact HK.out)) hb); have GE267 := zY w0 (zB HB) hg; replace HB := zk HB hb; clear hb hbox hg; obtain ⟨hcz12_0, hcz12_1, hfz12_0, hfz12_1⟩ := zC2 BK267))
   have n0_ : Aside0 (Kd.R (Kd.int .u8) 5 ((w11.setCell ⟨gb267, 0, none⟩ (.string ((rd_T62 l1 x13_1).f0))).setCell ⟨gb267, 1, none⟩ (.float .f64 ((rd_T62 l1 x13_1).f1))) w0.heap.size (fun k_ => (P0_ k_ ∨ w.heap.size ≤ k_)) u0 x0_1) := ⟨by (with_reducible repeat (first | apply Kd.R_alloc | apply Kd.R_drewN | apply Kd.R_drew)); exact Kd.R_mono (Kd.R_far (p := ⟨gb267, 1, none⟩) (Kd.R_far (p := ⟨gb267, 0, none⟩) (Kd.R_types HO_0.out BK267.out (by decide)) (fun _ hk => hk.2) (.string ((rd_T62 l1 x13_1).f0))) (fun _ hk => hk.2) (.float .f64 ((rd_T62 l1 x13_1).f1))) (fun _ hk => hk.1)⟩;have n1_ : Aside0 (((w11.setCell ⟨gb267, 0, none⟩ (.string ((rd_T62 l1 x13_1).f0))).setCell ⟨gb267, 1, none⟩ (.float .f64 ((rd_T62 l1 x13_1).f1))).heap[gb267]? = some (.cells #[.string ((rd_T62 l1 x13_1).f0), .float .f64 ((rd_T62 l1 x13_1).f1)] 62 (0, 0))) := ⟨zF BK267⟩;have n2_ : Aside0 (Kept w ((w11.setCell ⟨gb267, 0, none⟩ (.string ((rd_T62 l1 x13_1).f0))).setCell ⟨gb267, 1, none⟩ (.float .f64 ((rd_T62 l1 x13_1).f1))) (fun k_ => P0_ k_)) := ⟨by repeat (first | (with_reducible first | exact HK.out | apply Kept.alloc | apply Kept.drewN | apply Kept.drew | refine Kept.setCell ?_ (.inr GW267.out) _) | exact HK.out)⟩;have n3_ : Aside0 (Below w0.heap.size w0 ((w11.setCell ⟨gb267, 0, none⟩ (.string ((rd_T62 l1 x13_1).f0))).setCell ⟨gb267, 1, none⟩ (.float .f64 ((rd_T62 l1 x13_1).f1)))) := ⟨zB1 HB GE267⟩;(try clear HO_0);(try clear BK267);(try clear HK);(try clear HB);generalize ((w11.setCell ⟨gb267, 0, none⟩ (.string ((rd_T62 l1 x13_1).f0))).setCell ⟨gb267, 1, none⟩ (.float .f64 ((rd_T62 l1 x13_1).f1))) = w13 at n0_ n1_ n2_ n3_ ⊢;have HO_0 := n0_;have BK267 := n1_;have HK := n2_;have HB := n3_;clear n0_ n1_ n2_ n3_;replace HO_0 := zN (Kd.R_drew HO_0.out);replace BK267 := zN (blk_drew BK267.out);replace HK := zN (Kept.drew HK.out);replace HB := zN (below_drew1 HB.out);obtain ⟨Ao15, co15, eo15⟩ := Kd.R_slice HO_0.out;(first | subst eo15 | (injection eo15 with f1_ f2_ f3_; have f4_ := f1_.symm; have f5_ := f3_.symm; clear f1_ f2_ f3_; subst f4_; subst f5_));refine start_ (n := 8) (S := fun w' => w'.cell? ⟨gb267, 0, none⟩ = some (.string ((rd_T62 l1 x13_1).f0)) ∧ w'.cell? ⟨gb267, 1, none⟩ = some (.float .f64 ((rd_T62 l1 x13_1).f1))) (ds := []) #[false, false, false, false, false, false, false, false] zQ rfl rfl ⟨(blk_cell BK267.out 0).trans rfl, (blk_cell BK267.out 1).trans rfl⟩ (fun hHeld => ?_); refine with_tabW conf_row.tab5 conf_row.bits5 (fun HT_ HW_ => ?_);generalize w13.drew = w14 at HO_0 BK267 HK HB hHeld ⊢
   refine zU (i := 0) (N := some 17) #[true, false, false, false, false, false, false, false] rfl rfl HT_ ?_;refine zU (i := 1) (N := some 18) #[true, true, false, false, false, false, false, false] rfl rfl HT_ ?_;refine zU (i := 4) (N := some 21) #[true, true, false, false, true, false, false, false] rfl rfl HT_ ?_;refine take_ (i := 2) (N := some 19) (v := ?_) (a' := ?_) #[true, true, true, false, true, false, false, false] rfl rfl (take_ofW HT_.out HW_.out zQ) (fun _ _ _ h => h) (Or.inl ⟨by rfl, ?_⟩) hHeld ?_ ?_;rotate_left
   ·rintro w' ⟨s0, s1⟩;go_simp
    with_reducible rfl
   rotate_left
   ·simp only [zP];rfl
   refine take_ (i := 5) (N := some 22) (v := ?_) (a' := ?_) #[true, true, true, false, true, true, false, false] rfl rfl (take_ofW HT_.out HW_.out zQ) (fun _ _ _ h => h) (Or.inl ⟨by rfl, ?_⟩) hHeld ?_ ?_;rotate_left
   ·rintro w' ⟨s0, s1⟩;go_simp
    with_reducible rfl
   rotate_left
   ·simp only [zP];rfl
   refine one_ (i := 3) (N := some 20) #[true, true, true, true, true, true, false, false] rfl rfl (one_of HT_.out zQ) (by decide) (fun K hK => ?_);refine goes_ Tryz.func71 zQ rfl #[.slice Ao15 x0_1.length co15, .string ((rd_T62 l1 x13_1).f0)] (by rfl) rfl rfl zM ?_
   with_reducible refine (conf_text.calls k1 (fun k_ => some k_ = (.slice Ao15 x0_1.length co15 : Value).ownBlock) (.slice Ao15 x0_1.length co15) x0_1 ((rd_T62 l1 x13_1).f0) t268 w0 _ ?side1 ?side2 A9.out).mono ?_
   (case side1 => repeat (first | (with_reducible first | exact HB.out | apply below_alloc | apply pw_below_drewN | apply below_drew1 | refine below_set ?_ GE267.out) | exact HB.out))
   (case side2 => exact Kd.R_tight rfl HO_0.out)
   rintro e w16 ⟨v269, rfl, ho0, hb, hkp⟩;refine ⟨_, rfl, ?_⟩;replace BK267 := zN (blk_kept (zK BK267) hkp (fun hs_ => (fun e_ => (Kd.R_ne HO_0.out BK267.out (by decide)) e_) hs_));have HO270 := zN (Kd.R_mono (ok' := fun k_ => (P0_ k_ ∨ w.heap.size ≤ k_)) ho0 (fun k_ hk_ => Or.elim hk_ (fun hs_ => (HO_0.out.1 k_ (hs_).symm)) (fun hn_ => (.inr (Nat.le_trans (by first | exact HK.out.1 | exact (show Kept w _ (fun k_ => P0_ k_) from by repeat (first | (with_reducible first | exact HK.out | apply Kept.alloc | apply Kept.drewN | apply Kept.drew | refine Kept.setCell ?_ (.inr GW267.out) _) | exact HK.out)).1) hn_)))));replace HK := zN (Kept.then_ (S := (fun k_ => P0_ k_)) (by repeat (first | (with_reducible first | exact HK.out | apply Kept.alloc | apply Kept.drewN | apply Kept.drew | refine Kept.setCell ?_ (.inr GW267.out) _) | exact HK.out)) hkp (fun k_ hs_ => (fun e_ => (HO_0.out.1 k_ e_.symm)) hs_));replace HB := zN hb;clear HO_0;(try clear hb);(try clear hkp);(try clear ho0);obtain ⟨Ao17, co17, eo17⟩ := Kd.R_slice HO270.out;(first | subst eo17 | (injection eo17 with f1_ f2_ f3_; have f4_ := f1_.symm; have f5_ := f3_.symm; clear f1_ f2_ f3_; subst f4_; subst f5_));refine hK.out _ _ ⟨(blk_cell BK267.out 0).trans rfl, (blk_cell BK267.out 1).trans rfl⟩ (fun hHeld => ?_);clear hK K;refine norm_ (a' := ?_) ?_ ?_;rotate_left
   ·show Act.put _ (some 20) _ = _
    simp only [zP];rfl
   refine one_ (i := 6) (N := some 23) #[true, true, true, true, true, true, true, false] rfl rfl (one_of HT_.out zQ) (by decide) (fun K hK => ?_);refine goes_ Tryz.func93 zQ rfl #[.slice Ao17 t268.length co17, .float .f64 ((rd_T62 l1 x13_1).f1)] (by rfl) rfl rfl zM ?_
   with_reducible refine (conf_float.calls k1 (fun k_ => some k_ = (.slice Ao17 t268.length co17 : Value).ownBlock) (.slice Ao17 t268.length co17) t268 ((rd_T62 l1 x13_1).f1) t271 w0 _ ?side1 ?side2 A10.out).mono ?_
   (case side1 => repeat (first | (with_reducible first | exact HB.out | apply below_alloc | apply pw_below_drewN | apply below_drew1 | refine below_set ?_ GE267.out) | exact HB.out))
   (case side2 => exact Kd.R_tight rfl HO270.out)
   rintro e w18 ⟨v272, rfl, ho0, hb, hkp⟩;refine ⟨_, rfl, ?_⟩;replace BK267 := zN (blk_kept (zK BK267) hkp (fun hs_ => (fun e_ => (Kd.R_ne HO270.out BK267.out (by decide)) e_) hs_));have HO273 := zN (Kd.R_mono (ok' := fun k_ => (P0_ k_ ∨ w.heap.size ≤ k_)) ho0 (fun k_ hk_ => Or.elim hk_ (fun hs_ => (HO270.out.1 k_ (hs_).symm)) (fun hn_ => (.inr (Nat.le_trans (by first | exact HK.out.1 | exact (show Kept w _ (fun k_ => P0_ k_) from by repeat (first | (with_reducible first | exact HK.out | apply Kept.alloc | apply Kept.drewN | apply Kept.drew | refine Kept.setCell ?_ (.inr GW267.out) _) | exact HK.out)).1) hn_)))));replace HK := zN (Kept.then_ (S := (fun k_ => P0_ k_)) (by repeat (first | (with_reducible first | exact HK.out | apply Kept.alloc | apply Kept.drewN | apply Kept.drew | refine Kept.setCell ?_ (.inr GW267.out) _) | exact HK.out)) hkp (fun k_ hs_ => (fun e_ => (HO270.out.1 k_ e_.symm)) hs_));replace HB := zN hb;clear HO270;(try clear hb);(try clear hkp);(try clear ho0);refine hK.out _ _ ⟨(blk_cell BK267.out 0).trans rfl, (blk_cell BK267.out 1).trans rfl⟩ (fun hHeld => ?_);clear hK K;refine norm_ (a' := ?_) ?_ ?_;rotate_left
   ·show Act.put _ (some 23) _ = _
    simp only [zP];rfl
   refine zU (i := 7) (N := some 0) #[true, true, true, true, true, true, true, true] rfl rfl HT_ ?_;refine done_ (done_of HT_.out zQ) ?_
   try go_wp2
   go_roundg k1
   case measure => have := HK1.out; omega
   case rel => exact ⟨(t271), (wrap64 (x13_1 + 1)), zI, H', ⟨by have := HK1.out; omega⟩, ⟨zR HO273⟩, ⟨by repeat (first | (with_reducible first | exact HK.out | apply Kept.alloc | apply Kept.drewN | apply Kept.drew | refine Kept.setCell ?_ (.inr GW267.out) _) | exact HK.out)⟩, ⟨zB1 HB GE267⟩⟩

-- NOT PRINTED: function 4 (conf_New)

def IsS70 (w0 W : World) (g : Nat) (f0 : Int) (f1 : List (S54)) (f2 : List (S58)) : Prop := ∃ A1 c1, ∃ A2 c2, W.heap[g]? = some (.cells #[.int .i64 f0, .slice A1 f1.length c1, .slice A2 f2.length c2] 70 (0, 0)) ∧ w0.heap.size ≤ g ∧ Kd.C k54 w0 A1 f1.length f1 ∧ Kd.C k58 w0 A2 f2.length f2
theorem IsS70.grown {w0 W : World} {g : Nat} {f0 : Int} {f1 : List (S54)} {f2 : List (S58)} {W1 : World} {row : Option Nat} (h : IsS70 w0 W g f0 f1 f2) (hw : W.grownBy W1 row) (hne : some g ≠ row) : IsS70 w0 W1 g f0 f1 f2 := by
  obtain ⟨A1, c1, A2, c2, hb, hg, hr1, hr2⟩ := h;exact ⟨A1, c1, A2, c2, blk_grown hb hw hne, hg, hr1, hr2⟩
theorem IsS70.kept {w0 W : World} {g : Nat} {f0 : Int} {f1 : List (S54)} {f2 : List (S58)} {W1 : World} {S : Nat → Prop} (h : IsS70 w0 W g f0 f1 f2) (hk : Kept W W1 S) (hne : ¬ S g) : IsS70 w0 W1 g f0 f1 f2 := by
  obtain ⟨A1, c1, A2, c2, hb, hg, hr1, hr2⟩ := h;exact ⟨A1, c1, A2, c2, blk_kept hb hk hne, hg, hr1, hr2⟩
theorem IsS70.below {w0 W : World} {g : Nat} {f0 : Int} {f1 : List (S54)} {f2 : List (S58)} {W1 : World} (h : IsS70 w0 W g f0 f1 f2) (hw : Below W.heap.size W W1) : IsS70 w0 W1 g f0 f1 f2 := h.grown (grown_of_below hw none) (by simp)
theorem IsS70.alloc {w0 W : World} {g : Nat} {f0 : Int} {f1 : List (S54)} {f2 : List (S58)} (h : IsS70 w0 W g f0 f1 f2) (o : Obj) : IsS70 w0 (W.alloc o) g f0 f1 f2 := h.below (below_alloc (Below.refl _ _) o)
theorem IsS70.drewN {w0 W : World} {g : Nat} {f0 : Int} {f1 : List (S54)} {f2 : List (S58)} (h : IsS70 w0 W g f0 f1 f2) (m : Nat) : IsS70 w0 (W.drewN m) g f0 f1 f2 := h
theorem IsS70.drew {w0 W : World} {g : Nat} {f0 : Int} {f1 : List (S54)} {f2 : List (S58)} (h : IsS70 w0 W g f0 f1 f2) : IsS70 w0 W.drew g f0 f1 f2 := h
theorem IsS70.at_ {w0 W : World} {g : Nat} {f0 : Int} {f1 : List (S54)} {f2 : List (S58)} {w' : World} {m : Nat} (hq : W.drewN m = w') (h : IsS70 w0 W g f0 f1 f2) : IsS70 w0 w' g f0 f1 f2 := by subst hq; exact IsS70.drewN h m
theorem IsS70.apart {w0 W : World} {g : Nat} {f0 : Int} {f1 : List (S54)} {f2 : List (S58)} {α : Type} {d : Kd α} {e : Nat} {base : Nat} {ok : Nat → Prop} {v : Value} {xs : List α} (h : IsS70 w0 W g f0 f1 f2) (ho : d.R e W base ok v xs) (ht : ∀ q, q ∈ e :: d.E → q ≠ 70) : d.R e W base (fun k => ok k ∧ k ≠ g) v xs := by
  obtain ⟨A1, c1, A2, c2, hb, hg, hr1, hr2⟩ := h;exact Kd.R_types ho hb ht
theorem IsS70.own_ne {w0 W : World} {g : Nat} {f0 : Int} {f1 : List (S54)} {f2 : List (S58)} {α : Type} {d : Kd α} {e : Nat} {base : Nat} {ok : Nat → Prop} {v : Value} {xs : List α} (h : IsS70 w0 W g f0 f1 f2) (ho : d.R e W base ok v xs) (ht : e ≠ 70) : some g ≠ v.ownBlock := by
  obtain ⟨A1, c1, A2, c2, hb, hg, hr1, hr2⟩ := h;exact Kd.R_ne ho hb ht
theorem IsS70.lt {w0 W : World} {g : Nat} {f0 : Int} {f1 : List (S54)} {f2 : List (S58)} (h : IsS70 w0 W g f0 f1 f2) : g < W.heap.size := by
  obtain ⟨A1, c1, A2, c2, hb, hg, hr1, hr2⟩ := h;exact blk_lt hb
theorem IsS70.far {w0 W : World} {g : Nat} {f0 : Int} {f1 : List (S54)} {f2 : List (S58)} {p : Addr} (h : IsS70 w0 W g f0 f1 f2) (hne : g ≠ p.block) (u : Value) : IsS70 w0 (W.setCell p u) g f0 f1 f2 := by
  obtain ⟨A1, c1, A2, c2, hb, hg, hr1, hr2⟩ := h;exact ⟨A1, c1, A2, c2, blk_far hb hne u, hg, hr1, hr2⟩
theorem cellS70_0 {W : World} {g : Nat} {A1 : Option Addr} {c1 : Nat} {A2 : Option Addr} {c2 : Nat} {f0 : Int} {f1 : List (S54)} {f2 : List (S58)} (h : W.heap[g]? = some (.cells #[.int .i64 f0, .slice A1 f1.length c1, .slice A2 f2.length c2] 70 (0, 0))) : W.cell? ⟨g, 0, none⟩ = some (.int .i64 f0) := (blk_cell h 0).trans rfl
theorem IsS70.new (w0 W : World) (A1 : Option Addr) (c1 : Nat) (A2 : Option Addr) (c2 : Nat) (f0 : Int) (f1 : List (S54)) (f2 : List (S58)) (hB : Below w0.heap.size w0 W) (hr1 : Kd.C k54 w0 A1 f1.length f1) (hr2 : Kd.C k58 w0 A2 f2.length f2) : IsS70 w0 (W.alloc (.cells #[.int .i64 f0, .slice A1 f1.length c1, .slice A2 f2.length c2] 70)) W.heap.size f0 f1 f2 := ⟨A1, c1, A2, c2, by simpa using heap_alloc_new W _, hB.size, hr1, hr2⟩

def plane_New.f  : Option (Int × (List (S54)) × (List (S58))) := some (0, ([] : List (S54)), ([] : List (S58)))
set_option maxHeartbeats 8000000 in
set_option maxRecDepth 100000 in
theorem plane_New.calls  (r1 : Int) (r2 : List (S54)) (r3 : List (S58)) (w0 w : World) (hB : Below w0.heap.size w0 w) (h : plane_New.f  = some (r1, r2, r3)) :
    Calls Tryz.prog 5 #[] w fun e w' => ∃ g_ : Nat, e = .returned (.pointer (some ⟨g_, 0, none⟩)) ∧ IsS70 w0 w' g_ r1 r2 r3 ∧ Below w0.heap.size w0 w' ∧ Below w.heap.size w w' := by
  have hu70 := Tryz.underlying70;have HBW := zN (Below.refl w.heap.size w);have HW0 := zN hB.size;have HB := zN hB;clear hB;have H : (some (0, ([] : List (S54)), ([] : List (S58)))) = some (r1, r2, r3) := h;clear h;simp only [Option.some.injEq, Prod.mk.injEq] at H;obtain ⟨rfl, rfl, rfl⟩ := H;go_enter Tryz.func5, Tryz.ntmps5;go_wp2_with (first | ((with_reducible refine gate_dst (N := 2) rfl ?_); refine zX #[.int .i64 0, .slice none 0 0, .slice none 0 0] 70 rfl ?_; intro gb101 hg w1 hbox hb; replace HB := zk HB hb; have BK101 := zN hbox; have GW101 := zY w (zB HBW) hg; have GE101 := zN (Nat.le_trans HW0.out (by rw [hg]; exact (below_size (zB HBW)) : w.heap.size ≤ gb101) : w0.heap.size ≤ gb101); replace HBW := zN (below_step HBW.out hb); clear hb hbox hg));go_ret;exact ⟨_, rfl, (show IsS70 w0 _ gb101 0 ([] : List (S54)) ([] : List (S58)) from ⟨none, 0, none, 0, zK BK101, GE101.out, (Kd.C_nil _ _), (Kd.C_nil _ _)⟩), zB1 HB GE101, zB1 HBW GW101⟩

def tollgatetop_few.f (a0_0 : Int) (a0_1 : Int) (a0_2 : Int) (a0_3 : Int) (a0_4 : ByteArray) (a0_5 : ByteArray) (a0_6 : ByteArray) (l0_7 : List (S62)) : Option (Bool) := if (l0_7.length : Int) ≤ 100 then (some (decide ((wrap64 ((wrap64 ((a0_4.size : Int) + (a0_5.size : Int))) + (a0_6.size : Int))) ≤ 2000))) else (some false)
set_option maxHeartbeats 8000000 in
set_option maxRecDepth 100000 in
theorem tollgatetop_few.calls (a0_0 : Int) (a0_1 : Int) (a0_2 : Int) (a0_3 : Int) (a0_4 : ByteArray) (a0_5 : ByteArray) (a0_6 : ByteArray) (A0_7 : Option Addr) (c0_7 : Nat) (l0_7 : List (S62)) (r : Bool) (w : World) (hr0_7 : Kd.C k62 w A0_7 l0_7.length l0_7) (hc0_7 : l0_7.length ≤ c0_7) (h : tollgatetop_few.f a0_0 a0_1 a0_2 a0_3 a0_4 a0_5 a0_6 l0_7 = some r) :
    Calls Tryz.prog 6 #[.agg #[.int .i64 a0_0, .int .i64 a0_1, .int .i64 a0_2, .int .i64 a0_3, .string a0_4, .string a0_5, .string a0_6, .slice A0_7 l0_7.length c0_7]] w fun e w' => e = .returned (.bool r) ∧ Below w.heap.size w w' := by
  have hu35 := Tryz.underlying35;have HR0_7 := zN hr0_7;have HC0_7 := zN hc0_7;clear hr0_7 hc0_7;have HB := zN (Below.refl w.heap.size w);have H : (if (l0_7.length : Int) ≤ 100 then (some (decide ((wrap64 ((wrap64 ((a0_4.size : Int) + (a0_5.size : Int))) + (a0_6.size : Int))) ≤ 2000))) else (some false)) = some r := h;clear h;by_cases c2 : (l0_7.length : Int) ≤ 100
  · rw [zp c2] at H;have c2b0 := zt c2;have c2b1 : decide (l0_7.length ≤ 100) = true := zt zO;clear c2;obtain rfl := zo H;go_enter Tryz.func6, Tryz.ntmps6;go_wp2_with (first | ((with_reducible refine gate_dst (N := 1) rfl ?_); (try (refine gate_guard (by rfl) ?_; dsimp only)); refine zX #[.int .i64 a0_0, .int .i64 a0_1, .int .i64 a0_2, .int .i64 a0_3, .string a0_4, .string a0_5, .string a0_6, .slice A0_7 l0_7.length c0_7] 35 rfl ?_; intro gb102 hg w3 hbox hb; have BK102 := zN hbox; have GW102 := zY w (zB HB) hg; have GE102 := zY w (zB HB) hg; replace HB := zk HB hb; clear hb hbox hg; obtain ⟨hcz4_0, hcz4_1, hcz4_2, hcz4_3, hcz4_4, hcz4_5, hcz4_6, hcz4_7, hfz4_0, hfz4_1, hfz4_2, hfz4_3, hfz4_4, hfz4_5, hfz4_6, hfz4_7⟩ := zC8 BK102));go_ret;exact ⟨zE, zB1 HB GE102⟩
  rw [zn c2] at H;have c2b0 := zf c2;have c2b1 : decide (l0_7.length ≤ 100) = false := zf zO;clear c2;obtain rfl := zo H;go_enter Tryz.func6, Tryz.ntmps6;go_wp2_with (first | ((with_reducible refine gate_dst (N := 1) rfl ?_); (try (refine gate_guard (by rfl) ?_; dsimp only)); refine zX #[.int .i64 a0_0, .int .i64 a0_1, .int .i64 a0_2, .int .i64 a0_3, .string a0_4, .string a0_5, .string a0_6, .slice A0_7 l0_7.length c0_7] 35 rfl ?_; intro gb102 hg w5 hbox hb; have BK102 := zN hbox; have GW102 := zY w (zB HB) hg; have GE102 := zY w (zB HB) hg; replace HB := zk HB hb; clear hb hbox hg; obtain ⟨hcz6_0, hcz6_1, hcz6_2, hcz6_3, hcz6_4, hcz6_5, hcz6_6, hcz6_7, hfz6_0, hfz6_1, hfz6_2, hfz6_3, hfz6_4, hfz6_5, hfz6_6, hfz6_7⟩ := zC8 BK102));go_ret;exact ⟨zE, zB1 HB GE102⟩

-- NOT PRINTED: function 63 (conf_each)

def cmp_Or_int.l0 : Nat → Int → List Int → Int → Int → Option (Int)
  | 0, _, _, _, _ => none
  | k + 1, x3, x6, x7, x8 => if x8 < x7 then (if 0 ≤ x8 then (if x8 < (x6.length : Int) then (if (rd x6 x8) = x3 then (cmp_Or_int.l0 k x3 x6 x7 (wrap64 (x8 + 1))) else (some (rd x6 x8))) else (none)) else (none)) else (some x3)
def cmp_Or_int.f (k : Nat) (l0 : List Int) : Option (Int) := cmp_Or_int.l0 k 0 l0 (l0.length : Int) 0
theorem cmp_Or_int.mono_l : ∀ k, (∀ y0 y1 y2 y3, LeO (cmp_Or_int.l0 k y0 y1 y2 y3) (cmp_Or_int.l0 (k + 1) y0 y1 y2 y3))
  | 0 => fun _ _ _ _ r h => by simp [cmp_Or_int.l0] at h
  | k + 1 => by
    have ih0 := cmp_Or_int.mono_l k;intro y0 y1 y2 y3;unfold cmp_Or_int.l0
    repeat' with_reducible first | exact ih0 _ _ _ _ | exact LeO.refl _ | exact LeO.none _ | refine LeO.ite ?_ ?_ | refine LeO.bind ?_ (fun _ => ?_)
theorem cmp_Or_int.mono : ∀ a0 k, LeO (cmp_Or_int.f k a0) (cmp_Or_int.f (k + 1) a0) := by
  intro a0 k;have ih0 := cmp_Or_int.mono_l k;unfold cmp_Or_int.f
  repeat' with_reducible first | exact ih0 _ _ _ _ | exact LeO.refl _ | exact LeO.none _ | refine LeO.ite ?_ ?_ | refine LeO.bind ?_ (fun _ => ?_)
set_option maxHeartbeats 8000000 in
set_option maxRecDepth 100000 in
theorem cmp_Or_int.calls (k : Nat) (A0 : Option Addr) (c0 : Nat) (l0 : List Int) (r : Int) (w : World) (hr0 : Kd.C (Kd.int .i64) w A0 l0.length l0) (hc0 : l0.length ≤ c0) (h : cmp_Or_int.f k l0 = some r) :
    Calls Tryz.prog 48 #[.slice A0 l0.length c0] w fun e w' => e = .returned (.int .i64 r) ∧ Drawn0 w w' := by
  have HR0 := zN hr0;have HC0 := zN hc0;clear hr0 hc0;have H : (cmp_Or_int.l0 k 0 l0 (l0.length : Int) 0) = some r := h;clear h;have H' := zN H;clear H;go_enter Tryz.func48, Tryz.ntmps48;go_wp2;go_loopg [8] k (fun kq v8 w' => ∃ (x8_1 : Int), v8 = .int .i64 x8_1 ∧ Aside0 (cmp_Or_int.l0 kq 0 l0 (l0.length : Int) x8_1 = some r) ∧ Aside0 (kq ≤ k) ∧ Drawn0 w w')
  case atStart => exact ⟨(0), zI, H', ⟨zh _⟩, zD⟩
  case round =>
    clear H';obtain ⟨x8_1, rfl, HA, HK1, ⟨m1, rfl⟩⟩ := hrel;cases gk with
    | zero => exact absurd HA.out (by simp [cmp_Or_int.l0])
    | succ k1 =>
      have H := HA.out;clear HA;simp only [cmp_Or_int.l0] at H;by_cases c2 : x8_1 < (l0.length : Int);rotate_left
      · rw [zn c2] at H;have c2b0 := zf c2;clear c2;obtain rfl := zo H;go_wp2;go_ret;exact ⟨zI, zD⟩
      rw [zp c2] at H;have c2b0 := zt c2;clear c2;by_cases c3 : 0 ≤ x8_1;rotate_left
      · rw [zn c3] at H;exact absurd H (by simp)
      rw [zp c3] at H;have c3b0 := zt c3;clear c3;by_cases c4 : x8_1 < (l0.length : Int);rotate_left
      · rw [zn c4] at H;exact absurd H (by simp)
      rw [zp c4] at H;have c4b0 := zt c4;clear c4;by_cases c5 : (rd l0 x8_1) = 0
      · rw [zp c5] at H;have c5b0 := beq_iff_eq.mpr c5;have c5b1 := zc.mpr c5;clear c5;have H' := zN H;clear H;have p424 : 0 ≤ (x8_1 : Int) := zd zS;have q424 : x8_1 < (l0.length : Int) := zd zS;obtain ⟨ad424, e424, hx424_0⟩ := Kd.at_int HR0.out x8_1 p424 q424;cases e424;replace p424 := zu p424;replace q424 := zu q424;go_wp2;go_roundg k1
        case measure => have := HK1.out; omega
        case rel => exact ⟨(wrap64 (x8_1 + 1)), zI, H', ⟨by have := HK1.out; omega⟩, zD⟩
      rw [zn c5] at H;have c5b0 := zb.mpr c5;have c5b1 := bne_iff_ne.mpr c5;obtain rfl := zo H;have p424 : 0 ≤ (x8_1 : Int) := zd zS;have q424 : x8_1 < (l0.length : Int) := zd zS;obtain ⟨ad424, e424, hx424_0⟩ := Kd.at_int HR0.out x8_1 p424 q424;cases e424;replace p424 := zu p424;replace q424 := zu q424;go_wp2;go_ret;exact ⟨zI, zD⟩

-- NOT PRINTED: function 20 (api_Target_20)

-- NOT PRINTED: function 72 (slices_AppendSeq_string_string)

-- NOT PRINTED: function 42 (slices_Collect_string)

def cmp_isNaN_string.f (a0 : ByteArray) : Option (Bool) := some false
set_option maxHeartbeats 8000000 in
set_option maxRecDepth 100000 in
theorem cmp_isNaN_string.calls (a0 : ByteArray) (r : Bool) (w : World) (h : cmp_isNaN_string.f a0 = some r) :
    Calls Tryz.prog 78 #[.string a0] w fun e w' => e = .returned (.bool r) ∧ Drawn0 w w' := by
  have H : (some false) = some r := h;clear h;obtain rfl := zo H;go_enter Tryz.func78, Tryz.ntmps78;go_wp2;go_ret;exact ⟨zI, zD⟩

end Go.Proofs.YtpigfccpogmeaaaGreatDoor.S
end
section
namespace Go.Proofs.YtpigfccpogmeaaaGreatDoor.S
open Go.RowKit Go.Maps Go.Proofs.YtpigfccpogmeaaaGreatDoorW.PrintWords Go.Proofs.YtpigfccpogmeaaaGreatDoorW.PrintLast Go.Proofs.YtpigfccpogmeaaaGreatDoorW.PrintMore
set_option linter.unusedVariables false
set_option linter.unusedSimpArgs false
set_option maxRecDepth 100000
abbrev HR : Value → Option (DataW Value × List MemPlace) := fun v => some (.held v, [])
theorem HR_inv {v : Value} {d : DataW Value} {ps : List MemPlace} (h : HR v = some (d, ps)) : d = .held v := by
  simp only [HR, Option.some.injEq, Prod.mk.injEq] at h;exact h.1.symm
theorem laidOut_ : laidOutB Tryz.prog = true := by kernel_rfl
set_option maxRecDepth 100000 in
theorem rowPl : 84 < Tryz.prog.types.size := by
  have h : decide (84 < Tryz.prog.types.size) = true := by kernel_rfl
  exact zd h
theorem widePl : (match Tryz.prog.underlying 84 with | some (.array _ _) | some (.struct _) => true | _ => false) = true := by rw [Tryz.underlying84]
theorem keyedPl : Keyed Tryz.prog 84 := Keyed.of_law (deep_law_laid laidOut_ (m := 2) zO rowPl zQ widePl)
theorem keyedS : Keyed Tryz.prog 9 := string_keyed Tryz.underlying9
theorem keyedI : Keyed Tryz.prog 3 := int_keyed Tryz.underlying3
def plV (h p : ByteArray) : Value := .agg #[.string h, .string p]
def plK (h p : ByteArray) : Lit := .string (keyBytes [.string h.data.toList, .string p.data.toList])
theorem keyTypePl : Tryz.prog.keyType 84 = true := by kernel_rfl
theorem cellsPl : Tryz.prog.cellsOf 84 = 2 := by kernel_rfl
theorem cellsStr : Tryz.prog.cellsOf 9 = 1 := by kernel_rfl
theorem keyLitsS {m : Nat} {v : Value} {ls : List Lit} (h : Tryz.prog.keyLits (m + 1) 9 [v] = some ls) : ∃ s, v = .string s ∧ s.size ≤ maxLen ∧ ls = [.string s.data.toList] := by
  unfold Program.keyLits at h;rw [Tryz.underlying9] at h;cases v <;> simp at h
  exact ⟨_, rfl, h.1, h.2.symm⟩
theorem keyLitsS_mk {m : Nat} {s : ByteArray} (h : s.size ≤ maxLen) : Tryz.prog.keyLits (m + 1) 9 [.string s] = some [.string s.data.toList] := by
  unfold Program.keyLits;rw [Tryz.underlying9];simp [h]
theorem keyLitsPl (m : Nat) (a b : Value) : Tryz.prog.keyLits (m + 1 + 1) 84 [a, b] = (Tryz.prog.keyLits (m + 1) 9 [a]).bind fun x => (Tryz.prog.keyLits (m + 1) 9 [b]).map fun y => x ++ y := by
  conv => lhs; unfold Program.keyLits
  rw [Tryz.underlying84];simp only [cellsPl, List.length_cons, List.length_nil];rw [zp (by constructor <;> simp)];simp only [List.mapM_cons, List.mapM_nil, cellsStr, List.drop_zero, List.drop_succ_cons, List.take_succ_cons, List.take_zero];cases Tryz.prog.keyLits (m + 1) 9 [a] with
  | none => rfl
  | some x =>
    cases Tryz.prog.keyLits (m + 1) 9 [b] with
    | none => rfl
    | some y => simp
theorem typesS : ∃ m, Tryz.prog.types.size = m + 1 := by
  have h := rowPl;generalize Tryz.prog.types.size = n at h;exact ⟨n - 1, zO⟩
theorem keyOfPl (v : Value) : keyOf Tryz.prog 84 v = if v.formed Tryz.prog 84 then (Tryz.prog.keyLits (Tryz.prog.types.size + 1) 84 v.cells.toList).map fun ls => .string (keyBytes ls) else none := by
  unfold keyOf;rw [Tryz.underlying84];simp only [keyTypePl, Bool.true_and]
theorem plK_is {h p : ByteArray} (hh : h.size ≤ maxLen) (hp : p.size ≤ maxLen) : keyOf Tryz.prog 84 (plV h p) = some (plK h p) := by
  rw [keyOfPl];obtain ⟨m, hm⟩ := typesS;have hf : (plV h p).formed Tryz.prog 84 = true := by
    unfold plV Value.formed;rw [Tryz.underlying84];simp [cellsPl]
  rw [zp hf, hm, show (plV h p).cells.toList = [.string h, .string p] from rfl, keyLitsPl, keyLitsS_mk hh, keyLitsS_mk hp];rfl
theorem plK_inv {v : Value} {l : Lit} (h : keyOf Tryz.prog 84 v = some l) : ∃ a b, v = plV a b ∧ a.size ≤ maxLen ∧ b.size ≤ maxLen ∧ l = plK a b := by
  rw [keyOfPl] at h;obtain ⟨m, hm⟩ := typesS
  split at h
  rotate_left
  · cases h
  next hf =>
  cases v with
  | agg cs =>
    unfold Value.formed at hf;rw [Tryz.underlying84] at hf;simp only [cellsPl, beq_iff_eq] at hf;obtain ⟨l'⟩ := cs
    match l', hf with
    | [x, y], _ =>
      rw [hm, show (Value.agg #[x, y]).cells.toList = [x, y] from rfl, keyLitsPl] at h;cases e1 : Tryz.prog.keyLits (m + 1) 9 [x] with
      | none => rw [e1] at h; cases h
      | some lx =>
        cases e2 : Tryz.prog.keyLits (m + 1) 9 [y] with
        | none => rw [e1, e2] at h; cases h
        | some ly =>
          obtain ⟨a, rfl, ha, rfl⟩ := keyLitsS e1;obtain ⟨b, rfl, hb, rfl⟩ := keyLitsS e2;rw [e1, e2] at h;exact ⟨a, b, rfl, ha, hb, (zo h).symm⟩
  | _ => (unfold Value.formed at hf; rw [Tryz.underlying84] at hf; simp at hf)
theorem plK_inj {a b a' b' : ByteArray} (ha : a.size ≤ maxLen) (hb : b.size ≤ maxLen) (ha' : a'.size ≤ maxLen) (hb' : b'.size ≤ maxLen) (h : plK a b = plK a' b') : a = a' ∧ b = b' := by
  have h1 := plK_is ha hb;rw [h] at h1;have h2 := keyedPl.inj h1 (plK_is ha' hb');unfold plV at h2;injection h2 with h3
  injection h3 with h4
  injection h4 with h5 h6
  injection h6 with h7 _
  injection h5 with h5
  injection h7 with h7
  exact ⟨h5, h7⟩
end Go.Proofs.YtpigfccpogmeaaaGreatDoor.S
end
section
namespace Go.Proofs.YtpigfccpogmeaaaGreatDoor.S
open Go.RowKit Go.Maps Go.Shelf
set_option linter.unusedVariables false
set_option linter.unusedSimpArgs false
attribute [local go_sem] Oper.semAt_some
structure PK where
  a : ByteArray
  b : ByteArray
  ha : a.size ≤ maxLen
  hb : b.size ≤ maxLen
def PK.v (x : PK) : Value := plV x.a x.b
def PK.k (x : PK) : Lit := plK x.a x.b
theorem PK.inj {x y : PK} (h : x.k = y.k) : x = y := by
  obtain ⟨a, b, ha, hb⟩ := x;obtain ⟨c, d, hc, hd⟩ := y;obtain ⟨rfl, rfl⟩ := plK_inj ha hb hc hd h;rfl
theorem PK.key (x : PK) : WideAt.IsKeyLit x.k := trivial
def CollP (D0 : DataW Value) (left : Lit → Bool) (ss : List PK) : Prop := ss.Nodup ∧ ∀ x : PK, x ∈ ss ↔ (has D0 x.k = true ∧ left x.k = false)
theorem CollP.start (D0 : DataW Value) : CollP D0 (has D0) [] := ⟨List.nodup_nil, fun x => by cases has D0 x.k <;> simp⟩
theorem CollP.step {D0 : DataW Value} {left : Lit → Bool} {ss : List PK} (h : CollP D0 left ss) {x : PK} {y : DataW Value} (hlk : left x.k = true) (hat : ∀ zd, D0.atKey x.k zd = y) : CollP D0 (fun z => left z && !z.sameKey x.k) (ss ++ [x]) := by
  have hhas : has D0 x.k = true := has_true_of_atKey hat
  have hnew : x ∉ ss := fun hx => by have := ((h.2 x).1 hx).2; rw [hlk] at this; cases this
  refine ⟨List.nodup_append.2 ⟨h.1, by simp, fun a ha b hb => by simp at hb; subst hb; exact fun e => hnew (e ▸ ha)⟩, fun y => ?_⟩;by_cases hy : y = x
  · subst hy;have hs := WideAt.sameKey_self (PK.key y);simp [hhas, hs]
  have hne : y.k ≠ x.k := fun e => hy (PK.inj e)
  have hs := sameKey_ne hne;simp [h.2 y, hy, hs]
set_option maxRecDepth 100000 in
set_option maxHeartbeats 1000000 in
theorem keysPl_in (F : Fence) (n : Nat) (hF : F.fn 77) (hro : F.round = none) (hn : 1 ≤ n) (l Bm b nn : Nat) (D0 : DataW Value) (J Jx : List PK → World → Prop)
    (hY : ∀ pre x W, J pre W → pre.length < Maps.size D0 → YieldAt F (n - 1) Tryz.prog l #[PK.v x] W fun e W' =>
      (e = .returned (.bool true) ∧ J (pre ++ [x]) W' ∧ KeepsWalks W W') ∨ (e = .returned (.bool false) ∧ Jx (pre ++ [x]) W'))
    (W : World) (hJ : AbidesFrom W.heap.size J) (hm : W.cell? ⟨Bm, 0, none⟩ = some (.map (some b))) (hown : W.ownsMap Tryz.prog 84 HR b nn D0) (h0 : J [] W) :
    CallsIn F n Tryz.prog 77 #[.func (.yield l) #[] #[], .pointer (some ⟨Bm, 0, none⟩)] W fun e W' => (∃ v, e = .returned v) ∧
      ((∃ ss : List PK, (ss.Nodup ∧ (∀ x : PK, x ∈ ss ↔ has D0 x.k = true) ∧ ss.length ≤ Maps.size D0) ∧ J ss W') ∨ (∃ pre : List PK, True ∧ Jx pre W')) := by
  refine callsIn_of_wp Tryz.func77 rfl hF ?_ hro;simp only [Tryz.ntmps77, List.size_toArray, List.length_cons, List.length_nil, Nat.reduceAdd, Nat.reduceSub, Array.replicate_succ, Array.replicate_zero, List.push_toArray, List.append_toArray, List.nil_append, List.cons_append]
  gi_wp2_with (first
    | (gi_at_range; refine wpListIn_range_own _ rfl _ 65 rfl 84 9 keyedPl Tryz.underlying65 _ b nn _ rfl hown ?_; intro w0 hrg0 hg0 hs0)
    | gi_in)
  go_frame
  gi_loopw [3] (fun _ wr => ∃ (left : Lit → Bool) (cnt : Nat) (ss : List PK), wr.ranges Tryz.prog 84 HR b W.heap.size nn D0 left cnt ∧ ss.length + cnt ≤ Maps.size D0 ∧ CollP D0 left ss ∧ J ss wr)
    (fun _ wr => wr.rangeLeft b W.heap.size)
  case atStart =>
    exact ⟨_, _, [], hrg0, by simp, CollP.start D0, hJ [] W w0 none h0 hg0 (fun r e => by cases e)⟩
  case round =>
    obtain ⟨left, cnt, ss, hrg, hcs, hC, hJs⟩ := hrel
    gi_wp2_with (first
      | (gi_at_next; refine wpListIn_next_ranges _ rfl _ rfl 84 keyedPl HR PK.v id (fun key kl hk => by obtain ⟨a, b, rfl, ha, hb, _⟩ := plK_inv hk; exact ⟨⟨a, b, ha, hb⟩, rfl⟩) (fun v _ _ => ⟨v, rfl⟩) b W.heap.size nn _ _ _ rfl hrg ?_ ?_)
      | gi_in)
    · intro hc0 hl0
      gi_wp2
      go_end0;exact ⟨⟨_, rfl⟩, .inl ⟨ss, ⟨hC.1, fun x => by rw [hC.2 x, hl0]; simp, zO⟩, hJs⟩⟩
    intro x c kl yd yp w2 cnt2 hkey hlk hv1 hv2 hat hrg2 hlt hg2 hs2 hen;obtain rfl : kl = x.k := by
      have := plK_is x.ha x.hb;exact (zo (hkey.symm.trans this))
    have hJ2 : J ss w2 := hJ ss wr w2 (some W.heap.size) hJs hg2 (fun r e => by cases e; exact ⟨zh _, hrg.iter_walk⟩);have hJ3 : J ss (w2.alloc (.cells #[.string x.a, .string x.b] 84)) := hJ ss w2 _ none hJ2 (World.grownBy_alloc _ _ _) (fun r e => by cases e);obtain ⟨fn, tmps, assign, body, hy, hR⟩ := hY ss x _ hJ3 zO;have hxv : x.v = .agg #[.string x.a, .string x.b] := rfl;rw [hxv] at hen hy ⊢;clear hs2
    gi_wp2
    refine hR.mono ?_;have hC2 := hC.step hlk hat
    rintro e W3 (⟨rfl, hJ4, hk3⟩ | ⟨rfl, hJx3⟩)
    · gi_wp2
      have hrg3 := (hrg2.alloc _).of_walks hk3;go_roundw
      case rel => exact ⟨_, cnt2, ss ++ [x], hrg3, by simp; omega, hC2, hJ4⟩
      case measure => rw [hrg3.left_eq, hrg.left_eq]; exact hlt
    gi_wp2
    refine bodyPost_ret (results_none rfl _ _ _) rfl ?_;exact ⟨⟨_, rfl⟩, .inr ⟨ss ++ [x], trivial, hJx3⟩⟩
theorem keysPl_stops (F : Fence) (n : Nat) (hF : F.fn 77) (hro : F.round = none) (hn : 1 ≤ n) (Bm b nn : Nat) (D0 : DataW Value) (w : World) (hBm : Bm < w.heap.size)
    (hm : w.cell? ⟨Bm, 0, none⟩ = some (.map (some b))) (hown : w.ownsMap Tryz.prog 84 HR b nn D0) :
    SeqStops F n Tryz.prog 77 #[.pointer (some ⟨Bm, 0, none⟩)] PK.v (fun ss => ss.Nodup ∧ (∀ x : PK, x ∈ ss ↔ has D0 x.k = true) ∧ ss.length ≤ Maps.size D0) (fun _ => True) (Maps.size D0) w := fun l J Jx W hW hJ _ hY h0 => by
  have hown' : W.ownsMap Tryz.prog 84 HR b nn D0 := by
    have hbl := hown.lt;obtain ⟨es, clock, hb, Ft, hs, hD⟩ := hown;exact ⟨es, clock, (hW.block b hbl).trans hb, Ft, hs, hD⟩
  exact keysPl_in F n hF hro hn l Bm b nn D0 J Jx hY W hJ ((hW.cell (p := ⟨Bm, 0, none⟩) hBm).trans hm) hown' h0
def flatP (ss : List PK) : List Value := ss.flatMap fun x => [.string x.a, .string x.b]
theorem flatP_snoc (ss : List PK) (x : PK) : flatP (ss ++ [x]) = flatP ss ++ [.string x.a, .string x.b] := by unfold flatP; rw [List.flatMap_append]; rfl
theorem flatP_length (ss : List PK) : (flatP ss).length = ss.length * 2 := by
  induction ss with
  | nil => rfl
  | cons x r ih => unfold flatP at ih ⊢; rw [List.flatMap_cons, List.length_append, ih]; simp; omega
theorem infoPl : (Tryz.prog.info? 84).map (fun i => (i.zero, i.size, i.bytes)) = some (some (.agg #[.string ⟨#[]⟩, .string ⟨#[]⟩]), 2, 32) := by kernel_rfl
def AppI (w : World) (pre : List PK) (W : World) : Prop := (∃ v, Boxed W w.heap.size 81 v ∧ W.ownsRow w.heap.size 84 2 v pre.length (flatP pre) ∧ (v = .slice none 0 0 ↔ pre = [])) ∧ Below w.heap.size w W
set_option maxRecDepth 100000 in
set_option maxHeartbeats 2000000 in
theorem appendPl_in (F : Fence) (n : Nat) (hF : F.fn 105) (hro : F.round = none) (hn : 2 ≤ n) (gf : Nat) (lb : Array Value) (hFg : F.fn gf) (eg : ∀ args w, (callFunc gf args).run Tryz.prog w = .ok (.enter gf args) w)
    (S : List PK → Prop) (N : Nat) (hN : N ≤ maxLen) (hNb : N * 32 ≤ 140737488355328) (w : World) (hseq : SeqStops F (n - 1) Tryz.prog gf lb PK.v S (fun _ => True) N w) :
    CallsIn F n Tryz.prog 105 #[.slice none 0 0, .func (.func gf) #[] lb] w fun e w' => ∃ (v : Value) (ss : List PK), e = .returned v ∧ S ss ∧ w'.ownsRow w.heap.size 84 2 v ss.length (flatP ss) ∧ (v = .slice none 0 0 ↔ ss = []) ∧ Below w.heap.size w w' := by
  have h1 : 1 ≤ n := by omega
  obtain ⟨i0, hi, hz0, hz1, hz2⟩ := info_parts infoPl;refine callsIn_of_wp_marks Tryz.func105 rfl hF ?_ hro;simp only [Tryz.ntmps105, List.size_toArray, List.length_cons, List.length_nil, Nat.reduceAdd, Nat.reduceSub, Array.replicate_succ, Array.replicate_zero, List.push_toArray, List.append_toArray, List.nil_append, List.cons_append]
  gi_wp2
  have bO := Boxed.new w 81 (.slice none 0 0);have hB0 : Below w.heap.size w (w.alloc (.cells #[.slice none 0 0] 81)) := (Below.refl _ w).alloc (zh _) _
  refine wpIn_rangeFunc_ownH hro h1 (gf := gf) (lb := lb) rfl hFg eg (encs := fun x => #[PK.v x]) (Kp := KeepsWalks) (S := S) (Sp := fun _ => True) (N := N) (w0 := w) hseq walksK_t walksK_b hB0 (fun _ => rfl)
    (AppI w) (fun _ _ _ => False)
    (OwnFrom.and (Own.from (holdsRow_own w.heap.size w.heap.size 81 84 2 (fun pre : List PK => pre.length) flatP (fun pre v => v = .slice none 0 0 ↔ pre = [])) _) (ownFrom_below (zh _) (by simp)))
    (fun _ _ _ _ _ hs _ _ => hs)
    ⟨⟨_, bO, World.ownsRow_nil _ _ _ _, by simp⟩, hB0⟩
    (fun x a' W => ∃ Bx, w.heap.size < Bx ∧ W.heap[Bx]? = some (.cells #[.string x.a, .string x.b] 84 (0, 0)) ∧ a' = { tmps := #[.slice none 0 0, .func (.func gf) #[] lb, .pointer (some ⟨w.heap.size, 0, none⟩), undef, .slice none 0 0, .pointer (some ⟨Bx, 0, none⟩), .func (.func gf) #[] lb, .agg #[.string x.a, .string x.b], undef, undef, undef, undef, undef], defers := [] })
    (fun x a' s X Y row ⟨Bx, hlt, hb, ha⟩ hg hr => ⟨Bx, hlt, (hg.block Bx (Array.getElem?_eq_some_iff.1 hb).1 (fun e => by obtain ⟨_, o, ho, hc⟩ := hr Bx e.symm; rw [hb] at ho; cases ho; cases hc)).trans hb, ha⟩)
    ?assign ?body ?done ?stop
  case assign =>
    intro l pre x W K hI hK;have hxv : x.v = .agg #[.string x.a, .string x.b] := rfl;simp only [hxv];obtain ⟨⟨v, hv, hrow, hnil⟩, hB⟩ := hI
    gi_wp2
    exact hK _ _ ((KeepsOthers.alloc _ _).from _) (KeepsOthers.alloc _ _).walks ⟨⟨v, hv.alloc _, hrow.alloc _, hnil⟩, hB.alloc hB.size _⟩ ⟨W.heap.size, hv.lt, World.alloc_heap_new _ _, rfl⟩
  case body =>
    rintro l pre x a' W hl ⟨r, hr⟩ ⟨⟨v, hv, hrow, hnil⟩, hB⟩ ⟨Bx, hBx, bX, rfl⟩ hlt;have hc := hv.cell;have x0 : W.cell? ⟨Bx, 0, none⟩ = some (.string x.a) := cell_of_row W Bx 0 _ _ _ bX;have x1 : W.cell? ⟨Bx, 1, none⟩ = some (.string x.b) := cell_of_row W Bx 1 _ _ _ bX;have hnews : ∀ (j : Nat) (u : Value), ([.string x.a, .string x.b] : List Value)[j]? = some u → (W.alloc (.cells #[.string x.a, .string x.b] 84)).cell? ((⟨W.heap.size, 0, none⟩ : Addr).add j) = some u := by
      intro j u hu;have hadd : (⟨W.heap.size, 0, none⟩ : Addr).add j = ⟨W.heap.size, j, none⟩ := by unfold Addr.add; split <;> simp_all
      rw [hadd];exact (cell_of_row _ _ j _ _ _ (World.alloc_heap_new W _)).trans (by simpa using hu)
    gi_wp2_with (gi_at_builtin; refine wpListIn_append_own _ rfl _ _ 81 rfl w.heap.size 84 i0 (.agg #[.string ⟨#[]⟩, .string ⟨#[]⟩]) 2 32 Tryz.underlying81 hi hz0 hz1 hz2 rfl (by decide) _ _ _ rfl (hrow.alloc _) ⟨W.heap.size, 0, none⟩ 1 1 [.string x.a, .string x.b] rfl rfl hnews (by simp [Value.oneCell']) zO zO (by have := hB.size; simp; omega) ?_; intro v' w1 hown' hgrow _; obtain ⟨g', cap', rfl⟩ := ownsRow_succ hown'; obtain ⟨hv1, hv2, hr2, hk2, hb2⟩ := hv.appended (by decide) hrow hB.size (zh _) hown' hgrow; have hc1 := hv1.cell; have hf1 := hv1.frozen)
    exact ⟨hk2.from _, hk2.walks, ⟨⟨_, hv2, by rw [flatP_snoc, List.length_append]; exact hr2, by simp⟩, hB.trans hb2⟩⟩
  case done =>
    rintro D ys W hD hS ⟨⟨v, hv, hrow, hnil⟩, hB⟩ hK;have hc := hv.cell
    gi_wp2
    refine ⟨by simp, .inl ⟨_, _, rfl, run_takeDeferred hK, ?_⟩⟩;exact ⟨_, results_tmp rfl _ _ _, v, ys, rfl, hS, ownsRow_putObj hrow _ hK rfl, hnil, hB.trans (belowK_b (w := w) (zh _) W D _ _ (by simp at hD; omega) hK rfl rfl)⟩
  case stop =>
    rintro D c pre W _ _ h _;exact h.elim
set_option maxHeartbeats 1000000 in
theorem keysPl (mb : Option Nat) (w : World) : Calls Tryz.prog 46 #[.map mb] w fun e w' => e = .returned (.func (.func 77) #[] #[.pointer (some ⟨w.heap.size, 0, none⟩)]) ∧ w' = w.alloc (.cells #[.map mb] 65) := by
  go_enter Tryz.func46, Tryz.ntmps46;go_wp2;go_ret;exact ⟨rfl, rfl⟩
set_option maxRecDepth 100000 in
set_option maxHeartbeats 1000000 in
theorem collectPl (b nn : Nat) (D0 : DataW Value) (w : World) (hown : w.ownsMap Tryz.prog 84 HR b nn D0) (hN : Maps.size D0 ≤ 1000000) :
    Calls Tryz.prog 75 #[.func (.func 77) #[] #[.pointer (some ⟨w.heap.size, 0, none⟩)]] (w.alloc (.cells #[.map (some b)] 65)) fun e w' => ∃ (v : Value) (ss : List PK), e = .returned v ∧ (ss.Nodup ∧ (∀ x : PK, x ∈ ss ↔ has D0 x.k = true) ∧ ss.length ≤ Maps.size D0) ∧ w'.ownsRow (w.alloc (.cells #[.map (some b)] 65)).heap.size 84 2 v ss.length (flatP ss) ∧ (v = .slice none 0 0 ↔ ss = []) ∧ Below (w.alloc (.cells #[.map (some b)] 65)).heap.size (w.alloc (.cells #[.map (some b)] 65)) w' := by
  have hbl := hown.lt;have hseq := keysPl_stops Fence.wide 3 trivial rfl zO w.heap.size b nn D0 (w.alloc (.cells #[.map (some b)] 65)) (by simp) (by simp) (by
      obtain ⟨es, clock, hb, Ft, hs, hD⟩ := hown;exact ⟨es, clock, (Below.heap_alloc _ _ b hbl).trans hb, Ft, hs, hD⟩)
  have happ := appendPl_in Fence.wide 4 trivial rfl zO 77 #[.pointer (some ⟨w.heap.size, 0, none⟩)] trivial (enters_of Tryz.func77 zQ rfl) _ _ (by unfold maxLen; omega) zO _ hseq;refine (callsIn_wide (n := 5)).1 ?_;have hfK : Fence.wide.fn 105 := trivial;refine callsIn_of_wp Tryz.func75 rfl trivial ?_ rfl;simp only [Tryz.ntmps75, List.size_toArray, List.length_cons, List.length_nil, Nat.reduceAdd, Nat.reduceSub, Array.replicate_succ, Array.replicate_zero, List.push_toArray, List.append_toArray, List.nil_append, List.cons_append]
  gi_wp2_with (gi_at_call 105; refine happ.mono ?_; rintro e w' ⟨v, ss, rfl, hS, hrow, hnil, hb⟩)
  go_ret;exact ⟨v, ss, rfl, hS, hrow, hnil, hb⟩
end Go.Proofs.YtpigfccpogmeaaaGreatDoor.S
end
section
namespace Go.Proofs.YtpigfccpogmeaaaGreatDoor.S
open Go.RowKit Go.Sort Go.Proofs.YtpigfccpogmeaaaGreatDoorW.PrintWords Go.Proofs.YtpigfccpogmeaaaGreatDoorW.PrintLast Go.Proofs.YtpigfccpogmeaaaGreatDoorW.PrintMore
set_option linter.unusedVariables false
set_option linter.unusedSimpArgs false
def cmpS (x y : ByteArray) : Int := if x.toList < y.toList then -1 else if x.toList = y.toList then 0 else 1
theorem isNaN_false (x : ByteArray) : cmp_isNaN_string.f x = some false := by
  unfold cmp_isNaN_string.f;simp
set_option maxHeartbeats 1000000 in
theorem compare_ok (x y : ByteArray) (w : World) : Calls Tryz.prog 49 #[.string x, .string y] w fun e w' => e = .returned (.int .i64 (cmpS x y)) ∧ Drawn0 w w' := by
  by_cases h1 : x.toList < y.toList
  · have k1 : Op.bytesLess x.toList y.toList = true := by rw [Go.Proofs.bytesLess_eq]; exact zt h1
    have hr : cmpS x y = -1 := zp h1;rw [hr];clear h1 hr;go_enter Tryz.func49, Tryz.ntmps49;go_wp2_with (go_at_call 78; refine (cmp_isNaN_string.calls _ false _ (isNaN_false _)).mono ?_; rintro e w1 ⟨rfl, ⟨m1, rfl⟩⟩);go_ret;exact ⟨rfl, zD⟩
  have k1 : Op.bytesLess x.toList y.toList = false := by rw [Go.Proofs.bytesLess_eq]; exact zf h1
  by_cases h2 : x.toList = y.toList
  · have k2 : (x.toList == y.toList) = true := beq_iff_eq.mpr h2;have hr : cmpS x y = 0 := by unfold cmpS; rw [zn h1, zp h2]
    rw [hr];clear h1 h2 hr;go_enter Tryz.func49, Tryz.ntmps49;go_wp2_with (go_at_call 78; refine (cmp_isNaN_string.calls _ false _ (isNaN_false _)).mono ?_; rintro e w1 ⟨rfl, ⟨m1, rfl⟩⟩);go_ret;exact ⟨rfl, zD⟩
  have k2 : (x.toList == y.toList) = false := zb.mpr h2;have hr : cmpS x y = 1 := by unfold cmpS; rw [zn h1, zn h2]
  rw [hr];clear h1 h2 hr;go_enter Tryz.func49, Tryz.ntmps49;go_wp2_with (go_at_call 78; refine (cmp_isNaN_string.calls _ false _ (isNaN_false _)).mono ?_; rintro e w1 ⟨rfl, ⟨m1, rfl⟩⟩);go_ret;exact ⟨rfl, zD⟩
def cfP (x y : PK) : Int := if cmpS x.a y.a = 0 then cmpS x.b y.b else cmpS x.a y.a
theorem or_two (a b : Int) : cmp_Or_int.f 3 [a, b] = some (if a = 0 then b else a) := by
  unfold cmp_Or_int.f;by_cases ha : a = 0
  · by_cases hb : b = 0
    · subst ha hb; simp [cmp_Or_int.l0, Go.Proofs.YtpigfccpogmeaaaGreatDoorW.PrintWords.rd, wrap64]
    subst ha;simp [cmp_Or_int.l0, Go.Proofs.YtpigfccpogmeaaaGreatDoorW.PrintWords.rd, wrap64, hb]
  simp [cmp_Or_int.l0, Go.Proofs.YtpigfccpogmeaaaGreatDoorW.PrintWords.rd, wrap64, ha]
open Go.RowKit Go.Proofs.YtpigfccpogmeaaaGreatDoorW.PrintWords Go.Proofs.YtpigfccpogmeaaaGreatDoorW.PrintLast Go.Proofs.YtpigfccpogmeaaaGreatDoorW.PrintMore
def Gr (W W' : World) : Prop := ∃ q os, W' = Sort.grow (W.drewN q) os
theorem Gr.refl (W : World) : Gr W W := ⟨0, #[], by rw [Sort.grow_empty]; rfl⟩
theorem Gr.alloc {W W' : World} (h : Gr W W') (o : Obj) : Gr W (W'.alloc o) := by
  obtain ⟨q, os, rfl⟩ := h;exact ⟨q, os ++ #[o], by rw [Sort.alloc_eq_grow, Sort.grow_grow]⟩
theorem Gr.drewN {W W' : World} (h : Gr W W') (n : Nat) : Gr W (W'.drewN n) := by
  obtain ⟨q, os, rfl⟩ := h;refine ⟨q + n, os, ?_⟩
  show Sort.grow ((W.drewN q).drewN n) os = _
  rw [World.drewN_drewN]
theorem Gr.drew {W W' : World} (h : Gr W W') : Gr W W'.drew := h.drewN 1
theorem C_two (W : World) (a b : Int) : Kd.C (Kd.int .i64) (W.alloc (.cells #[.int .i64 a, .int .i64 b] 3)) (some ⟨W.heap.size, 0, none⟩) 2 [a, b] :=
  (Kd.R_reads' (Kd.R_of_own (ok := fun _ => True) (enc := fun x : Int => Value.int .i64 x) (xs := [a, b]) (own_lit W 0 3 .i64 [a, b] (Nat.zero_le _) (show 2 ≤ 9223372036854775807 by decide)) (fun _ _ => trivial))).2.2
noncomputable def cf_T : Bool × List (List Nat × List Nat) := rtab .any (opsOf Tryz.f47 1)
theorem cf_T_is : rtab .any (opsOf Tryz.f47 1) = cf_T := rfl
set_option maxHeartbeats 4000000 in
set_option maxRecDepth 100000 in
theorem less_ok (x y : PK) (W : World) : Calls Tryz.prog 47 #[.agg #[.string x.a, .string x.b], .agg #[.string y.a, .string y.b]] W fun e w' => e = .returned (.int .i64 (cfP x y)) ∧ Gr W w' := by
  have HG := zN (((Gr.refl W).alloc (.cells #[.string x.a, .string x.b] 84)).alloc (.cells #[.string y.a, .string y.b] 84));have BX := zN (blk_alloc (blk_new W (.cells #[.string x.a, .string x.b] 84)) (.cells #[.string y.a, .string y.b] 84));have BY := zN (blk_new (W.alloc (.cells #[.string x.a, .string x.b] 84)) (.cells #[.string y.a, .string y.b] 84));rw [World.size_alloc] at BY;go_enter Tryz.func47, Tryz.ntmps47;go_upto_region 1 with (fail)
  generalize (W.alloc (.cells #[.string x.a, .string x.b] 84)).alloc (.cells #[.string y.a, .string y.b] 84) = w0 at HG BX BY ⊢;generalize W.heap.size = bx at BX BY ⊢;refine start_ (n := 13) (S := fun w' => w'.cell? ⟨bx, 0, none⟩ = some (.string x.a) ∧ w'.cell? ⟨bx, 1, none⟩ = some (.string x.b) ∧ w'.cell? ⟨bx + 1, 0, none⟩ = some (.string y.a) ∧ w'.cell? ⟨bx + 1, 1, none⟩ = some (.string y.b)) (ds := []) #[false, false, false, false, false, false, false, false, false, false, false, false, false] zQ rfl rfl ⟨(blk_cell BX.out 0).trans rfl, (blk_cell BX.out 1).trans rfl, (blk_cell BY.out 0).trans rfl, (blk_cell BY.out 1).trans rfl⟩ (fun hHeld => ?_);refine with_tab (T := cf_T) cf_T_is (fun HT_ => ?_);have BX_ := zN (blk_drew BX.out);have BY_ := zN (blk_drew BY.out);have HG_ := zN HG.out.drew;clear BX BY HG;have BX := BX_;have BY := BY_;have HG := HG_;clear BX_ BY_ HG_;generalize w0.drew = w1 at BX BY HG hHeld ⊢;refine zU (i := 0) (N := some 5) #[true, false, false, false, false, false, false, false, false, false, false, false, false] rfl rfl HT_ ?_;refine take_ (i := 1) (N := some 6) (v := ?_) (a' := ?_) #[true, true, false, false, false, false, false, false, false, false, false, false, false] rfl rfl (take_of HT_.out zQ) (fun _ _ _ h => h) (Or.inl ⟨by rfl, ?_⟩) hHeld ?_ ?_;rotate_left
  · rintro w' ⟨s0, s1, s2, s3⟩;go_simp
    with_reducible rfl
  rotate_left
  · simp only [zP];rfl
  refine zU (i := 2) (N := some 7) #[true, true, true, false, false, false, false, false, false, false, false, false, false] rfl rfl HT_ ?_;refine take_ (i := 3) (N := some 8) (v := ?_) (a' := ?_) #[true, true, true, true, false, false, false, false, false, false, false, false, false] rfl rfl (take_of HT_.out zQ) (fun _ _ _ h => h) (Or.inl ⟨by rfl, ?_⟩) hHeld ?_ ?_;rotate_left
  · rintro w' ⟨s0, s1, s2, s3⟩;go_simp
    with_reducible rfl
  rotate_left
  · simp only [zP];rfl
  refine zU (i := 5) (N := some 10) #[true, true, true, true, false, true, false, false, false, false, false, false, false] rfl rfl HT_ ?_;refine take_ (i := 6) (N := some 11) (v := ?_) (a' := ?_) #[true, true, true, true, false, true, true, false, false, false, false, false, false] rfl rfl (take_of HT_.out zQ) (fun _ _ _ h => h) (Or.inl ⟨by rfl, ?_⟩) hHeld ?_ ?_;rotate_left
  · rintro w' ⟨s0, s1, s2, s3⟩;go_simp
    with_reducible rfl
  rotate_left
  · simp only [zP];rfl
  refine zU (i := 7) (N := some 12) #[true, true, true, true, false, true, true, true, false, false, false, false, false] rfl rfl HT_ ?_;refine take_ (i := 8) (N := some 13) (v := ?_) (a' := ?_) #[true, true, true, true, false, true, true, true, true, false, false, false, false] rfl rfl (take_of HT_.out zQ) (fun _ _ _ h => h) (Or.inl ⟨by rfl, ?_⟩) hHeld ?_ ?_;rotate_left
  · rintro w' ⟨s0, s1, s2, s3⟩;go_simp
    with_reducible rfl
  rotate_left
  · simp only [zP];rfl
  refine one_ (i := 4) (N := some 9) #[true, true, true, true, true, true, true, true, true, false, false, false, false] rfl rfl (one_of HT_.out zQ) (by decide) (fun K hK => ?_);refine goes_ Tryz.func49 zQ rfl #[.string x.a, .string y.a] (by rfl) rfl rfl (by (try simp only [List.map_toArray, List.map_cons, List.map_nil]); first | done | rfl) ?_;refine (compare_ok x.a y.a _).mono ?_;rintro e w2 ⟨rfl, ⟨nd, rfl⟩⟩;refine ⟨_, rfl, ?_⟩;have BX_ := zN (blk_drewN BX.out nd);have BY_ := zN (blk_drewN BY.out nd);have HG_ := zN (HG.out.drewN nd);clear BX BY HG;have BX := BX_;have BY := BY_;have HG := HG_;clear BX_ BY_ HG_;generalize w1.drewN nd = w2 at BX BY HG ⊢;refine hK.out _ _ ⟨(blk_cell BX.out 0).trans rfl, (blk_cell BX.out 1).trans rfl, (blk_cell BY.out 0).trans rfl, (blk_cell BY.out 1).trans rfl⟩ (fun hHeld => ?_);clear hK K;refine norm_ (a' := ?_) ?_ ?_;rotate_left
  · show Act.put _ (some 9) _ = _
    simp only [zP];rfl
  refine one_ (i := 9) (N := some 14) #[true, true, true, true, true, true, true, true, true, true, false, false, false] rfl rfl (one_of HT_.out zQ) (by decide) (fun K hK => ?_);refine goes_ Tryz.func49 zQ rfl #[.string x.b, .string y.b] (by rfl) rfl rfl (by (try simp only [List.map_toArray, List.map_cons, List.map_nil]); first | done | rfl) ?_;refine (compare_ok x.b y.b _).mono ?_;rintro e w3 ⟨rfl, ⟨nd, rfl⟩⟩;refine ⟨_, rfl, ?_⟩;have BX_ := zN (blk_drewN BX.out nd);have BY_ := zN (blk_drewN BY.out nd);have HG_ := zN (HG.out.drewN nd);clear BX BY HG;have BX := BX_;have BY := BY_;have HG := HG_;clear BX_ BY_ HG_;generalize w2.drewN nd = w3 at BX BY HG ⊢;refine hK.out _ _ ⟨(blk_cell BX.out 0).trans rfl, (blk_cell BX.out 1).trans rfl, (blk_cell BY.out 0).trans rfl, (blk_cell BY.out 1).trans rfl⟩ (fun hHeld => ?_);clear hK K;refine norm_ (a' := ?_) ?_ ?_;rotate_left
  · show Act.put _ (some 14) _ = _
    simp only [zP];rfl
  refine one_ (i := 10) (N := some 15) #[true, true, true, true, true, true, true, true, true, true, true, false, false] rfl rfl (one_of HT_.out zQ) (by decide) (fun K hK => ?_);refine event_step (by rfl) (v := .slice (some ⟨w3.heap.size, 0, none⟩) 2 2) (w1 := w3.alloc (.cells #[.int .i64 (cmpS x.a y.a), .int .i64 (cmpS x.b y.b)] 3)) (by go_simp) ?_;have CL := zN (C_two w3 (cmpS x.a y.a) (cmpS x.b y.b));have BX_ := zN (blk_alloc BX.out (.cells #[.int .i64 (cmpS x.a y.a), .int .i64 (cmpS x.b y.b)] 3));have BY_ := zN (blk_alloc BY.out (.cells #[.int .i64 (cmpS x.a y.a), .int .i64 (cmpS x.b y.b)] 3));have HG_ := zN (HG.out.alloc (.cells #[.int .i64 (cmpS x.a y.a), .int .i64 (cmpS x.b y.b)] 3));clear BX BY HG;have BX := BX_;have BY := BY_;have HG := HG_;clear BX_ BY_ HG_;generalize hb3 : w3.heap.size = bl at CL ⊢;generalize w3.alloc (.cells #[.int .i64 (cmpS x.a y.a), .int .i64 (cmpS x.b y.b)] 3) = w4 at BX BY HG CL ⊢;clear hb3;refine hK.out _ _ ⟨(blk_cell BX.out 0).trans rfl, (blk_cell BX.out 1).trans rfl, (blk_cell BY.out 0).trans rfl, (blk_cell BY.out 1).trans rfl⟩ (fun hHeld => ?_);clear hK K;refine norm_ (a' := ?_) ?_ ?_;rotate_left
  · show Act.put _ (some 15) _ = _
    simp only [zP];rfl
  refine one_ (i := 11) (N := some 16) #[true, true, true, true, true, true, true, true, true, true, true, true, false] rfl rfl (one_of HT_.out zQ) (by decide) (fun K hK => ?_);refine goes_ Tryz.func48 zQ rfl #[.slice (some ⟨bl, 0, none⟩) 2 2] (by rfl) rfl rfl (by (try simp only [List.map_toArray, List.map_cons, List.map_nil]); first | done | rfl) ?_;refine (cmp_Or_int.calls 3 (some ⟨bl, 0, none⟩) 2 [cmpS x.a y.a, cmpS x.b y.b] (cfP x y) _ CL.out (zh 2) (or_two _ _)).mono ?_;rintro e w5 ⟨rfl, ⟨nd, rfl⟩⟩;refine ⟨_, rfl, ?_⟩;have BX_ := zN (blk_drewN BX.out nd);have BY_ := zN (blk_drewN BY.out nd);have HG_ := zN (HG.out.drewN nd);clear BX BY HG;have BX := BX_;have BY := BY_;have HG := HG_;clear BX_ BY_ HG_;generalize w4.drewN nd = w5 at BX BY HG ⊢;refine hK.out _ _ ⟨(blk_cell BX.out 0).trans rfl, (blk_cell BX.out 1).trans rfl, (blk_cell BY.out 0).trans rfl, (blk_cell BY.out 1).trans rfl⟩ (fun hHeld => ?_);clear hK K;refine norm_ (a' := ?_) ?_ ?_;rotate_left
  · show Act.put _ (some 16) _ = _
    simp only [zP];rfl
  refine zU (i := 12) (N := some 4) #[true, true, true, true, true, true, true, true, true, true, true, true, true] rfl rfl HT_ ?_;refine done_ (done_of HT_.out zQ) ?_;clear HT_;clear hHeld;go_wp2;go_ret;exact ⟨rfl, HG.out⟩
instance : Inhabited PK := ⟨⟨⟨#[]⟩, ⟨#[]⟩, Nat.zero_le _, Nat.zero_le _⟩⟩
def encP (x : PK) : List Value := [.string x.a, .string x.b]
theorem tri (x y : List UInt8) : x < y ∨ x = y ∨ y < x := by
  by_cases h : x < y
  · exact .inl h
  by_cases h2 : y < x
  · exact .inr (.inr h2)
  exact .inr (.inl (List.le_antisymm (List.not_lt.1 h2) (List.not_lt.1 h)))
theorem cmpS_lt {x y : ByteArray} : cmpS x y < 0 ↔ x.toList < y.toList := by
  unfold cmpS;by_cases h : x.toList < y.toList
  · rw [zp h];exact ⟨fun _ => h, fun _ => by decide⟩
  rw [zn h];by_cases h2 : x.toList = y.toList
  · rw [zp h2];exact ⟨fun e => absurd e (by decide), fun e => absurd e h⟩
  rw [zn h2];exact ⟨fun e => absurd e (by decide), fun e => absurd e h⟩
theorem cmpS_eq {x y : ByteArray} : cmpS x y = 0 ↔ x.toList = y.toList := by
  unfold cmpS;by_cases h : x.toList < y.toList
  · simp only [h, if_true]
    constructor
    · intro e; cases e
    intro e; rw [e] at h; exact absurd h (List.lt_irrefl _)
  by_cases h2 : x.toList = y.toList <;> simp [h, h2]
theorem cfP_lt (x y : PK) : ltOf cfP x y = true ↔ (x.a.toList < y.a.toList ∨ (x.a.toList = y.a.toList ∧ x.b.toList < y.b.toList)) := by
  unfold ltOf cfP;rw [decide_eq_true_eq];by_cases h : cmpS x.a y.a = 0
  · rw [zp h, cmpS_lt];have h2 := cmpS_eq.1 h;rw [h2]
    constructor
    · intro h3; exact .inr ⟨rfl, h3⟩
    rintro (h3 | ⟨_, h3⟩)
    · exact absurd h3 (List.lt_irrefl _)
    exact h3
  rw [zn h, cmpS_lt]
  constructor
  · intro h3; exact .inl h3
  rintro (h3 | ⟨h3, _⟩)
  · exact h3
  exact absurd (cmpS_eq.2 h3) h
theorem cfP_nlt (x y : PK) : ltOf cfP x y = false ↔ (y.a.toList < x.a.toList ∨ (y.a.toList = x.a.toList ∧ (y.b.toList < x.b.toList ∨ y.b.toList = x.b.toList))) := by
  rw [← Bool.not_eq_true, cfP_lt]
  constructor
  · intro h
    rcases tri x.a.toList y.a.toList with h1 | h1 | h1
    · exact absurd (.inl h1) h
    · rcases tri x.b.toList y.b.toList with h2 | h2 | h2
      · exact absurd (.inr ⟨h1, h2⟩) h
      · exact .inr ⟨h1.symm, .inr h2.symm⟩
      exact .inr ⟨h1.symm, .inl h2⟩
    exact .inl h1
  rintro (h1 | ⟨h1, h2⟩)
  · rintro (h3 | ⟨h3, _⟩)
    · exact List.lt_irrefl _ (List.lt_trans h1 h3)
    rw [h3] at h1; exact List.lt_irrefl _ h1
  rintro (h3 | ⟨_, h3⟩)
  · rw [h1] at h3; exact List.lt_irrefl _ h3
  rcases h2 with h2 | h2
  · exact List.lt_irrefl _ (List.lt_trans h2 h3)
  rw [h2] at h3; exact List.lt_irrefl _ h3
theorem cfP_swo : SWO (ltOf cfP) where
  irrefl x := (cfP_nlt x x).2 (.inr ⟨rfl, .inr rfl⟩)
  trans x y z h1 h2 := by
    rw [cfP_lt] at *
    rcases h1 with h1 | ⟨h1, h1'⟩ <;> rcases h2 with h2 | ⟨h2, h2'⟩
    · exact .inl (List.lt_trans h1 h2)
    · exact .inl (h2 ▸ h1)
    · exact .inl (h1 ▸ h2)
    exact .inr ⟨h1.trans h2, List.lt_trans h1' h2'⟩
  ntrans x y z h1 h2 := by
    rw [cfP_nlt] at *
    rcases h1 with h1 | ⟨h1, h1'⟩ <;> rcases h2 with h2 | ⟨h2, h2'⟩
    · exact .inl (List.lt_trans h2 h1)
    · exact .inl (h2 ▸ h1)
    · exact .inl (h1 ▸ h2)
    refine .inr ⟨h2.trans h1, ?_⟩
    rcases h1' with h1' | h1' <;> rcases h2' with h2' | h2'
    · exact .inl (List.lt_trans h2' h1')
    · exact .inl (h2' ▸ h1')
    · exact .inl (h1' ▸ h2')
    exact .inr (h2'.trans h1')
theorem ba_ext {x y : ByteArray} (h : x.toList = y.toList) : x = y := by
  rw [Lib.toList_data, Lib.toList_data] at h;cases x; cases y;simp only at h;rw [Array.toList_inj] at h;rw [h]
theorem cfP_total {x y : PK} (h1 : ltOf cfP x y = false) (h2 : ltOf cfP y x = false) : x = y := by
  rw [cfP_nlt] at h1 h2;have key : x.a.toList = y.a.toList ∧ x.b.toList = y.b.toList := by
    rcases h1 with h1 | ⟨h1, h1'⟩ <;> rcases h2 with h2 | ⟨h2, h2'⟩
    · exact absurd (List.lt_trans h1 h2) (List.lt_irrefl _)
    · rw [h2] at h1; exact absurd h1 (List.lt_irrefl _)
    · rw [h1] at h2; exact absurd h2 (List.lt_irrefl _)
    refine ⟨h2, ?_⟩
    rcases h1' with h1' | h1' <;> rcases h2' with h2' | h2'
    · exact absurd (List.lt_trans h1' h2') (List.lt_irrefl _)
    · exact h2'
    · exact h1'.symm
    exact h2'
  obtain ⟨a, b, ha, hb⟩ := x;obtain ⟨c, d, hc, hd⟩ := y;obtain rfl := ba_ext key.1;obtain rfl := ba_ext key.2;rfl
def KeysP (D : DataW Value) (ss : List PK) : Prop := ss.Nodup ∧ (∀ x : PK, x ∈ ss ↔ Maps.has D x.k = true) ∧ ss.Pairwise (fun x y => ltOf cfP y x = false)
theorem KeysP.unique {D : DataW Value} {s t : List PK} (h : KeysP D s) (k : KeysP D t) : s = t := by
  have hp : s.Perm t := (List.perm_ext_iff_of_nodup h.1 k.1).2 (fun x => by rw [h.2.1, k.2.1]);exact List.Perm.eq_of_pairwise (le := fun x y => ltOf cfP y x = false) (fun a b _ _ h1 h2 => cfP_total h2 h1) h.2.2 k.2.2 hp
end Go.Proofs.YtpigfccpogmeaaaGreatDoor.S
end
section
namespace Go.Proofs
open Go.Shelf
def Tryz.keys19_ren : Go.Shelf.Ren := ⟨fun | 7 => 19 | 10 => 44 | n => n, fun | 23 => 64 | 26 => 9 | 3 => 33 | 28 => 78 | 0 => 0 | 27 => 77 | 33 => 85 | 4 => 4 | n => n, fun | n => n⟩
theorem Tryz.keys19 : Go.Proofs.SlLaysZ.n7 Tryz.prog Tryz.keys19_ren := {
  mixed := by kernel_rfl
  f7 := ⟨Tryz.f19.name, by decide, Tryz.func19.trans (congrArg some zQ)⟩
  f10 := ⟨Tryz.f44.name, by decide, Tryz.func44.trans (congrArg some zQ)⟩
  t0 := Tryz.underlying0
  a0 := Tryz.isAgg0
  z0 := Tryz.sizeOf0
  v0 := Tryz.zeroValue0
  t4 := Tryz.underlying4
  a4 := Tryz.isAgg4
  z4 := Tryz.sizeOf4
  v4 := Tryz.zeroValue4
  t23 := Tryz.underlying64
  a23 := Tryz.isAgg64
  z23 := Tryz.sizeOf64
  v23 := Tryz.zeroValue64
  t26 := Tryz.underlying9
  a26 := Tryz.isAgg9
  z26 := Tryz.sizeOf9
  v26 := Tryz.zeroValue9
  t27 := Tryz.underlying77
  a27 := Tryz.isAgg77
  z27 := Tryz.sizeOf77
  v27 := Tryz.zeroValue77
  t28 := Tryz.underlying78
  a28 := Tryz.isAgg78
  z28 := Tryz.sizeOf78
  v28 := Tryz.zeroValue78
  t33 := Tryz.underlying85
  a33 := Tryz.isAgg85
  z33 := Tryz.sizeOf85
  v33 := Tryz.zeroValue85 }
def Tryz.sorted18_ren : Go.Shelf.Ren := ⟨fun | 6 => 18 | 8 => 42 | 9 => 43 | 11 => 72 | 13 => 74 | 12 => 73 | 23 => 103 | 24 => 104 | 14 => 94 | 15 => 95 | 16 => 96 | 17 => 97 | 18 => 98 | 19 => 99 | 20 => 100 | 21 => 101 | 22 => 102 | 25 => 124 | 26 => 125 | 27 => 126 | 28 => 127 | 29 => 128 | 30 => 78 | 31 => 148 | n => n, fun | 26 => 9 | 28 => 78 | 24 => 75 | 0 => 0 | 3 => 3 | 37 => 134 | 48 => 157 | 50 => 145 | 4 => 4 | 40 => 151 | 39 => 150 | 45 => 59 | 5 => 5 | 9 => 9 | 51 => 173 | 55 => 177 | 57 => 190 | 58 => 191 | 33 => 85 | n => n, fun | n => n⟩
theorem Tryz.sorted18 : Go.Proofs.SlLaysZ.n6 Tryz.prog Tryz.sorted18_ren := {
  mixed := by kernel_rfl
  f6 := ⟨Tryz.f18.name, by decide, Tryz.func18.trans (congrArg some zQ)⟩
  f8 := ⟨Tryz.f42.name, by decide, Tryz.func42.trans (congrArg some zQ)⟩
  f11 := ⟨Tryz.f72.name, by decide, Tryz.func72.trans (congrArg some zQ)⟩
  t0 := Tryz.underlying0
  a0 := Tryz.isAgg0
  z0 := Tryz.sizeOf0
  v0 := Tryz.zeroValue0
  t24 := Tryz.underlying75
  a24 := Tryz.isAgg75
  z24 := Tryz.sizeOf75
  v24 := Tryz.zeroValue75
  t26 := Tryz.underlying9
  a26 := Tryz.isAgg9
  z26 := Tryz.sizeOf9
  v26 := Tryz.zeroValue9
  t28 := Tryz.underlying78
  a28 := Tryz.isAgg78
  z28 := Tryz.sizeOf78
  v28 := Tryz.zeroValue78
  i26 := by kernel_rfl }
def Tryz.sort43_ren : Go.Shelf.Ren := ⟨fun | 6 => 43 | 8 => 74 | 9 => 73 | 19 => 103 | 20 => 104 | 21 => 94 | 22 => 95 | 23 => 96 | 24 => 97 | 25 => 98 | 26 => 99 | 27 => 100 | 28 => 101 | 29 => 102 | 36 => 124 | 31 => 125 | 32 => 126 | 37 => 127 | 38 => 128 | 39 => 78 | 41 => 148 | n => n, fun | 27 => 75 | 29 => 9 | 3 => 3 | 32 => 134 | 26 => 75 | 0 => 0 | 44 => 157 | 46 => 145 | 4 => 4 | 36 => 151 | 35 => 150 | 41 => 59 | 5 => 5 | 9 => 9 | 53 => 173 | 57 => 177 | 63 => 190 | 64 => 191 | n => n, fun | n => n⟩
theorem Tryz.sort43 : Go.Proofs.SlLaysM.n6 Tryz.prog Tryz.sort43_ren := {
  mixed := by kernel_rfl
  f6 := ⟨Tryz.f43.name, by decide, Tryz.func43.trans (congrArg some zQ)⟩
  f8 := Tryz.func74.trans (congrArg some zQ)
  f9 := ⟨Tryz.f73.name, by decide, Tryz.func73.trans (congrArg some zQ)⟩
  f19 := Tryz.func103.trans (congrArg some zQ)
  f20 := Tryz.func104.trans (congrArg some zQ)
  f21 := ⟨Tryz.f94.name, by decide, Tryz.func94.trans (congrArg some zQ)⟩
  f22 := ⟨Tryz.f95.name, by decide, Tryz.func95.trans (congrArg some zQ)⟩
  f23 := ⟨Tryz.f96.name, by decide, Tryz.func96.trans (congrArg some zQ)⟩
  f24 := ⟨Tryz.f97.name, by decide, Tryz.func97.trans (congrArg some zQ)⟩
  f25 := ⟨Tryz.f98.name, by decide, Tryz.func98.trans (congrArg some zQ)⟩
  f26 := ⟨Tryz.f99.name, by decide, Tryz.func99.trans (congrArg some zQ)⟩
  f27 := ⟨Tryz.f100.name, by decide, Tryz.func100.trans (congrArg some zQ)⟩
  f28 := ⟨Tryz.f101.name, by decide, Tryz.func101.trans (congrArg some zQ)⟩
  f29 := ⟨Tryz.f102.name, by decide, Tryz.func102.trans (congrArg some zQ)⟩
  f31 := Tryz.func125.trans (congrArg some zQ)
  f32 := Tryz.func126.trans (congrArg some zQ)
  f36 := ⟨Tryz.f124.name, by decide, Tryz.func124.trans (congrArg some zQ)⟩
  f37 := ⟨Tryz.f127.name, by decide, Tryz.func127.trans (congrArg some zQ)⟩
  f38 := ⟨Tryz.f128.name, by decide, Tryz.func128.trans (congrArg some zQ)⟩
  f39 := ⟨Tryz.f78.name, by decide, Tryz.func78.trans (congrArg some zQ)⟩
  f41 := ⟨Tryz.f148.name, by decide, Tryz.func148.trans (congrArg some zQ)⟩
  t0 := Tryz.underlying0
  a0 := Tryz.isAgg0
  z0 := Tryz.sizeOf0
  v0 := Tryz.zeroValue0
  t3 := Tryz.underlying3
  a3 := Tryz.isAgg3
  z3 := Tryz.sizeOf3
  v3 := Tryz.zeroValue3
  t4 := Tryz.underlying4
  a4 := Tryz.isAgg4
  z4 := Tryz.sizeOf4
  v4 := Tryz.zeroValue4
  t5 := Tryz.underlying5
  a5 := Tryz.isAgg5
  z5 := Tryz.sizeOf5
  v5 := Tryz.zeroValue5
  t9 := Tryz.underlying9
  a9 := Tryz.isAgg9
  z9 := Tryz.sizeOf9
  v9 := Tryz.zeroValue9
  t26 := Tryz.underlying75
  a26 := Tryz.isAgg75
  z26 := Tryz.sizeOf75
  v26 := Tryz.zeroValue75
  t27 := Tryz.underlying75
  a27 := Tryz.isAgg75
  z27 := Tryz.sizeOf75
  v27 := Tryz.zeroValue75
  t29 := Tryz.underlying9
  a29 := Tryz.isAgg9
  z29 := Tryz.sizeOf9
  v29 := Tryz.zeroValue9
  t32 := Tryz.underlying134
  a32 := Tryz.isAgg134
  z32 := Tryz.sizeOf134
  v32 := Tryz.zeroValue134
  t35 := Tryz.underlying150
  a35 := Tryz.isAgg150
  z35 := Tryz.sizeOf150
  v35 := Tryz.zeroValue150
  t36 := Tryz.underlying151
  a36 := Tryz.isAgg151
  z36 := Tryz.sizeOf151
  v36 := Tryz.zeroValue151
  t41 := Tryz.underlying59
  a41 := Tryz.isAgg59
  z41 := Tryz.sizeOf59
  v41 := Tryz.zeroValue59
  t44 := Tryz.underlying157
  a44 := Tryz.isAgg157
  z44 := Tryz.sizeOf157
  v44 := Tryz.zeroValue157
  t46 := Tryz.underlying145
  a46 := Tryz.isAgg145
  z46 := Tryz.sizeOf145
  v46 := Tryz.zeroValue145
  t53 := Tryz.underlying173
  a53 := Tryz.isAgg173
  z53 := Tryz.sizeOf173
  v53 := Tryz.zeroValue173
  t57 := Tryz.underlying177
  a57 := Tryz.isAgg177
  z57 := Tryz.sizeOf177
  v57 := Tryz.zeroValue177
  t63 := Tryz.underlying190
  a63 := Tryz.isAgg190
  z63 := Tryz.sizeOf190
  v63 := Tryz.zeroValue190
  t64 := Tryz.underlying191
  a64 := Tryz.isAgg191
  z64 := Tryz.sizeOf191
  v64 := Tryz.zeroValue191 }
def Tryz.sf76_ren : Go.Shelf.Ren := ⟨fun | 6 => 76 | 15 => 74 | 14 => 106 | 28 => 103 | 29 => 104 | 20 => 129 | 21 => 130 | 22 => 131 | 23 => 132 | 24 => 133 | 25 => 134 | 26 => 135 | 27 => 136 | 46 => 149 | 47 => 125 | 48 => 126 | 49 => 150 | 50 => 151 | 57 => 157 | n => n, fun | 22 => 81 | 24 => 84 | 25 => 115 | 3 => 3 | 39 => 134 | 0 => 0 | 53 => 157 | 55 => 145 | 4 => 4 | 46 => 151 | 45 => 150 | 50 => 59 | 5 => 5 | 9 => 9 | 66 => 173 | 70 => 177 | 76 => 190 | 77 => 191 | n => n, fun | n => n⟩
theorem Tryz.sf76 : Go.Proofs.SlLaysF0.n6 Tryz.prog Tryz.sf76_ren := {
  mixed := by kernel_rfl
  f6 := ⟨Tryz.f76.name, by decide, Tryz.func76.trans (congrArg some zQ)⟩
  f14 := ⟨Tryz.f106.name, by decide, Tryz.func106.trans (congrArg some zQ)⟩
  f15 := Tryz.func74.trans (congrArg some zQ)
  f20 := ⟨Tryz.f129.name, by decide, Tryz.func129.trans (congrArg some zQ)⟩
  f21 := ⟨Tryz.f130.name, by decide, Tryz.func130.trans (congrArg some zQ)⟩
  f22 := ⟨Tryz.f131.name, by decide, Tryz.func131.trans (congrArg some zQ)⟩
  f23 := ⟨Tryz.f132.name, by decide, Tryz.func132.trans (congrArg some zQ)⟩
  f24 := ⟨Tryz.f133.name, by decide, Tryz.func133.trans (congrArg some zQ)⟩
  f25 := ⟨Tryz.f134.name, by decide, Tryz.func134.trans (congrArg some zQ)⟩
  f26 := ⟨Tryz.f135.name, by decide, Tryz.func135.trans (congrArg some zQ)⟩
  f27 := ⟨Tryz.f136.name, by decide, Tryz.func136.trans (congrArg some zQ)⟩
  f28 := Tryz.func103.trans (congrArg some zQ)
  f29 := Tryz.func104.trans (congrArg some zQ)
  f46 := ⟨Tryz.f149.name, by decide, Tryz.func149.trans (congrArg some zQ)⟩
  f47 := Tryz.func125.trans (congrArg some zQ)
  f48 := Tryz.func126.trans (congrArg some zQ)
  f49 := ⟨Tryz.f150.name, by decide, Tryz.func150.trans (congrArg some zQ)⟩
  f50 := ⟨Tryz.f151.name, by decide, Tryz.func151.trans (congrArg some zQ)⟩
  f57 := ⟨Tryz.f157.name, by decide, Tryz.func157.trans (congrArg some zQ)⟩
  t0 := Tryz.underlying0
  a0 := Tryz.isAgg0
  z0 := Tryz.sizeOf0
  v0 := Tryz.zeroValue0
  t3 := Tryz.underlying3
  a3 := Tryz.isAgg3
  z3 := Tryz.sizeOf3
  v3 := Tryz.zeroValue3
  t4 := Tryz.underlying4
  a4 := Tryz.isAgg4
  z4 := Tryz.sizeOf4
  v4 := Tryz.zeroValue4
  t5 := Tryz.underlying5
  a5 := Tryz.isAgg5
  z5 := Tryz.sizeOf5
  v5 := Tryz.zeroValue5
  t9 := Tryz.underlying9
  a9 := Tryz.isAgg9
  z9 := Tryz.sizeOf9
  v9 := Tryz.zeroValue9
  t22 := Tryz.underlying81
  a22 := Tryz.isAgg81
  z22 := Tryz.sizeOf81
  v22 := Tryz.zeroValue81
  t25 := Tryz.underlying115
  a25 := Tryz.isAgg115
  z25 := Tryz.sizeOf115
  v25 := Tryz.zeroValue115
  t39 := Tryz.underlying134
  a39 := Tryz.isAgg134
  z39 := Tryz.sizeOf134
  v39 := Tryz.zeroValue134
  t45 := Tryz.underlying150
  a45 := Tryz.isAgg150
  z45 := Tryz.sizeOf150
  v45 := Tryz.zeroValue150
  t46 := Tryz.underlying151
  a46 := Tryz.isAgg151
  z46 := Tryz.sizeOf151
  v46 := Tryz.zeroValue151
  t50 := Tryz.underlying59
  a50 := Tryz.isAgg59
  z50 := Tryz.sizeOf59
  v50 := Tryz.zeroValue59
  t53 := Tryz.underlying157
  a53 := Tryz.isAgg157
  z53 := Tryz.sizeOf157
  v53 := Tryz.zeroValue157
  t55 := Tryz.underlying145
  a55 := Tryz.isAgg145
  z55 := Tryz.sizeOf145
  v55 := Tryz.zeroValue145
  t66 := Tryz.underlying173
  a66 := Tryz.isAgg173
  z66 := Tryz.sizeOf173
  v66 := Tryz.zeroValue173
  t70 := Tryz.underlying177
  a70 := Tryz.isAgg177
  z70 := Tryz.sizeOf177
  v70 := Tryz.zeroValue177
  t76 := Tryz.underlying190
  a76 := Tryz.isAgg190
  z76 := Tryz.sizeOf190
  v76 := Tryz.zeroValue190
  t77 := Tryz.underlying191
  a77 := Tryz.isAgg191
  z77 := Tryz.sizeOf191
  v77 := Tryz.zeroValue191 }
end Go.Proofs
end
section
namespace Go.Proofs.YtpigfccpogmeaaaGreatDoor.S
open Go.RowKit Go.Sort Go.Proofs.YtpigfccpogmeaaaGreatDoorW.PrintWords Go.Proofs.YtpigfccpogmeaaaGreatDoorW.PrintLast Go.Proofs.YtpigfccpogmeaaaGreatDoorW.PrintMore
set_option linter.unusedVariables false
set_option linter.unusedSimpArgs false
theorem flatP_get : ∀ (ss : List PK) (t : Nat), t < ss.length * 2 → (flatP ss)[t]? = some ((encP ss[t / 2]!)[t % 2]!)
  | [], t, h => by simp at h
  | x :: r, 0, _ => by simp [flatP, encP]
  | x :: r, 1, _ => by simp [flatP, encP]
  | x :: r, t + 2, h => by
    have h2 := flatP_get r t (by simp at h; omega);have e1 : flatP (x :: r) = .string x.a :: .string x.b :: flatP r := rfl;rw [e1, List.getElem?_cons_succ, List.getElem?_cons_succ, h2];have e2 : (t + 2) / 2 = t / 2 + 1 := by omega
    have e3 : (t + 2) % 2 = t % 2 := by omega
    rw [e2, e3];have : t / 2 < r.length := by simp at h; omega
    simp [this]
theorem flatK_P (ss : List PK) : (flatK encP 2 ss.toArray).toList = flatP ss := by
  apply List.ext_getElem?;intro t;by_cases h : t < ss.length * 2
  · rw [flatP_get ss t h, Array.getElem?_toList];have h2 : t < (flatK encP 2 ss.toArray).size := by simp; omega
    rw [Array.getElem?_eq_getElem h2];have h3 := get_flatK encP 2 ss.toArray t (by simpa using h);rw [getElem!_pos _ t h2] at h3;rw [h3];simp
  rw [List.getElem?_eq_none (by simp; omega), List.getElem?_eq_none (by rw [flatP_length]; omega)]
theorem holdsK_row {w : World} {g : Nat} {cur : Array Value} {e : TypeId} {ss : List PK} (hb : w.heap[g]? = some (.cells cur e (0, 0))) (ht : cur.toList.take (ss.length * 2) = flatP ss) : HoldsK encP 2 w g 0 ss.toArray := by
  intro j hj;have hj' : j < ss.length * 2 := by simpa using hj
  refine ⟨?_, by simp [World.frozen?, hb]⟩;have h1 : (cur.toList.take (ss.length * 2))[j]? = (flatP ss)[j]? := by rw [ht]
  rw [List.getElem?_take_of_lt hj'] at h1;simp only [World.cell?, hb, Nat.zero_add];simp only [Option.isSome_none, Bool.false_eq_true, if_false];rw [← Array.getElem?_toList, h1, ← flatK_P, Array.getElem?_toList, Array.getElem?_eq_getElem hj];simp only [id, Option.some.injEq];exact (getElem!_pos (flatK encP 2 ss.toArray) j hj).symm
theorem heap_sortedK {w : World} {g n : Nat} {os : Array Obj} {cur : Array Value} {e : TypeId} {fr : Nat × Nat} (d : Array PK) (hb : w.heap[g]? = some (.cells cur e fr)) :
    (sortWorldK encP 2 w g 0 n d os).heap[g]? = some (.cells (putCells id 0 (flatK encP 2 d) cur) e fr) := by
  have hg : g < w.heap.size := (Array.getElem?_eq_some_iff.1 hb).1;unfold sortWorldK putRowK;rw [heap_grow_old _ _ (by simpa using hg)];simp [putRow, mapBlock, Sort.ahead, Array.getElem?_modify, hb, onCells]
theorem grownBy_sortedK {w : World} {g n : Nat} {os : Array Obj} (d : Array PK) : w.grownBy (sortWorldK encP 2 w g 0 n d os) (some g) := by
  unfold sortWorldK putRowK;refine ⟨rfl, rfl, rfl, by simp, fun k hk hne => ?_⟩;rw [heap_grow_old _ _ (by simpa using hk)];have : g ≠ k := fun e => hne (by rw [e])
  simp [putRow, mapBlock, Sort.ahead, Array.getElem?_modify, this]
theorem take_putCellsK (cur : Array Value) (ts : Array Value) (h : ts.size ≤ cur.size) : (putCells id 0 ts cur).toList.take ts.size = ts.toList := by
  apply List.ext_getElem?;intro j;by_cases hj : j < ts.size
  · rw [List.getElem?_take_of_lt hj, Array.getElem?_toList, Array.getElem?_toList];simp [putCells, hj, show j < cur.size by omega]
  rw [List.getElem?_take_eq_none zO, List.getElem?_eq_none (by simp; omega)]
theorem ownsRow_sortedK {w : World} {base g cap n : Nat} {e : TypeId} {os : Array Obj} {cur : Array Value} {ss ts : List PK} (hl : ts.length = ss.length) (hbase : base ≤ g) (hb : w.heap[g]? = some (.cells cur e (0, 0)))
    (h1 : ss.length ≤ cap) (h2 : cap ≤ maxLen) (h3 : cur.size = cap * 2) :
    (sortWorldK encP 2 w g 0 n ts.toArray os).ownsRow base e 2 (.slice (some ⟨g, 0, none⟩) ss.length cap) ss.length (flatP ts) := by
  refine ⟨by rw [flatP_length, hl], .inr ⟨g, cap, _, rfl, hbase, heap_sortedK _ hb, h1, h2, by simp [putCells, h3], ?_⟩⟩;have := take_putCellsK cur (flatK encP 2 ts.toArray) (by simp [h3]; omega);rw [flatK_P] at this;rw [← this]
  congr 1
  simp [hl]
theorem isAggPl (w : World) : (isAgg 84).run Tryz.prog w = .ok true w := by
  unfold isAgg;rw [Sem.run_bind, run_underlying Tryz.underlying84 w];rfl
theorem sizeOfPl (w : World) : (Go.sizeOf 84).run Tryz.prog w = .ok 2 w := by
  obtain ⟨i0, hi, hz0, hz1, hz2⟩ := info_parts infoPl;simp [Go.sizeOf, typeInfo, hi, hz1]
theorem sortFunc_ok {W : World} {base : Nat} {v : Value} {ss : List PK} (hrow : W.ownsRow base 84 2 v ss.length (flatP ss)) (hN : ss.length ≤ 1000000) :
    Calls Tryz.prog 76 #[v, .func (.func 47) #[] #[]] W fun e w' => e = .returned (.tuple #[]) ∧ ∃ ts : List PK, ts.Perm ss ∧ ts.Pairwise (fun x y => ltOf cfP y x = false) ∧ w'.ownsRow base 84 2 v ts.length (flatP ts) ∧ W.grownBy w' v.ownBlock := by
  rcases hrow.2 with ⟨rfl, h0⟩ | ⟨g, cap, cur, rfl, hbase, hb, h1, h2, h3, h4⟩
  · have hs : ss = [] := List.length_eq_zero_iff.1 h0;subst hs;refine (AnyF.slices_SortFunc_none Tryz.sf76 none 0 _ W).mono ?_;rintro e w' ⟨rfl, rfl⟩;exact ⟨rfl, [], List.Perm.refl _, List.Pairwise.nil, hrow, ⟨rfl, rfl, rfl, zh _, fun _ _ _ => rfl⟩⟩
  have hcap : ss.length < 4611686018427387904 := by omega
  refine (AnyQ.slices_SortFunc Tryz.sf76 2 isAggPl sizeOfPl encP (fun _ => rfl) (fun x v hv => by simp [encP] at hv; rcases hv with rfl | rfl <;> rfl) cfP cfP_swo 47 #[] g 0 cap ss.toArray W (enters_of Tryz.func47 zQ rfl) (fun m os dk _ x y => less_ok x y _) (holdsK_row hb h4) (Array.getElem?_eq_some_iff.1 hb).1 (by simpa using hcap)).mono ?_;rintro e w' ⟨rfl, d', n, os, hperm, hsort, rfl⟩;have hsz : d'.size = ss.length := by have := hperm.1; simpa using this
  have hpm : d'.toList.Perm ss := by
    have h := hperm.2.2;have e1 : d'.extract 0 ss.toArray.size = d' := by rw [show ss.toArray.size = d'.size by rw [hsz]; simp]; exact Array.extract_size
    rw [e1] at h;simpa using h
  refine ⟨rfl, d'.toList, hpm, ?_, ?_, grownBy_sortedK d'⟩
  · rw [List.pairwise_iff_getElem];intro i j hi hj hij;have := hsort i j (Nat.zero_le _) hij (by simp; rw [Array.length_toList] at hj; omega);rw [getElem!_pos d' j (by simpa using hj), getElem!_pos d' i (by simpa using hi)] at this;simpa using this
  have := ownsRow_sortedK (w := W) (n := n) (os := os) (ts := d'.toList) (ss := ss) (by simpa using hsz) hbase hb h1 h2 h3;rw [show d'.toList.length = ss.length by simpa using hsz];simpa using this
set_option maxHeartbeats 1000000 in
theorem sortedFunc_ok (b nn : Nat) (D0 : DataW Value) (w : World) (hown : w.ownsMap Tryz.prog 84 HR b nn D0) (hN : Maps.size D0 ≤ 1000000) :
    Calls Tryz.prog 45 #[.func (.func 77) #[] #[.pointer (some ⟨w.heap.size, 0, none⟩)], .func (.func 47) #[] #[]] (w.alloc (.cells #[.map (some b)] 65)) fun e w' => ∃ (v : Value) (ts : List PK), e = .returned v ∧ KeysP D0 ts ∧ ts.length ≤ Maps.size D0 ∧ w'.ownsRow w.heap.size 84 2 v ts.length (flatP ts) ∧ Below w.heap.size w w' := by
  have HC := zN (collectPl b nn D0 w hown hN);have HN := zN hN;clear hown hN;have HB := zN (below_alloc (Below.refl w.heap.size w) (.cells #[.map (some b)] 65));have HS := zN (World.size_alloc w (.cells #[.map (some b)] 65));generalize w.alloc (.cells #[.map (some b)] 65) = w0 at HC HB HS ⊢;go_enter Tryz.func45, Tryz.ntmps45;go_wp2_with (first | (go_at_call 75; refine HC.out.mono ?_; rintro e w1 ⟨v, ss, rfl, hS, hrow, hnil, hb⟩; have HSS := zN hS; have HR1 := zN hrow; have HB1 := zN (HB.out.trans (hb.mono HB.out.size)); clear HB hS hrow hnil hb HC) | (go_at_call 76; refine (sortFunc_ok HR1.out (by have := HSS.out.2.2; have := HN.out; omega)).mono ?_; rintro e w2 ⟨rfl, ts, hperm, hsort, hrow2, hg⟩; have HP := zN hperm; have HT := zN hsort; have HR2 := zN hrow2; have HG := zN hg; clear hperm hsort hrow2 hg));go_ret;have hlen : ts.length = ss.length := HP.out.length_eq;refine ⟨v, ts, rfl, ⟨HP.out.nodup_iff.2 HSS.out.1, fun x => by rw [HP.out.mem_iff]; exact HSS.out.2.1 x, HT.out⟩, by rw [hlen]; exact HSS.out.2.2, Kd.own_raise HR2.out (fun k hk => by have := own_base HR2.out k hk; have := HS.out; omega), HB1.out.grown HG.out HB1.out.size (fun k hk => ?_)⟩;have := own_base HR1.out k hk;have := HS.out;omega
open Go.RowKit Go.Maps Go.Proofs.YtpigfccpogmeaaaGreatDoorW.PrintWords Go.Proofs.YtpigfccpogmeaaaGreatDoorW.PrintLast Go.Proofs.YtpigfccpogmeaaaGreatDoorW.PrintMore
structure StAt (W : World) (gs bp br bc : Nat) (v : Int) (DP DR DC : DataW Value) : Prop where
  own : W.heap[gs]? = some (.cells #[.int .i64 v, .map (some bp), .map (some br), .map (some bc)] 68 (0, 0))
  mp : W.ownsMap Tryz.prog 9 HR bp (Maps.size DP) DP
  mr : W.ownsMap Tryz.prog 84 HR br (Maps.size DR) DR
  mc : W.ownsMap Tryz.prog 3 HR bc (Maps.size DC) DC
theorem ownsMap_tight {P : Program} {k : TypeId} {W : World} {b n : Nat} {D : DataW Value} (h : W.ownsMap P k HR b n D) : W.ownsMap P k HR b (Maps.size D) D := by
  obtain ⟨es, clock, hb, F, hs, rfl⟩ := h;exact ⟨es, clock, hb, F, by simp [Maps.size, length_sorted], rfl⟩
theorem ownsMap_move {P : Program} {k : TypeId} {W W' : World} {b n : Nat} {D : DataW Value} (h : W.ownsMap P k HR b n D) (hb : W'.heap[b]? = W.heap[b]?) : W'.ownsMap P k HR b n D := by
  obtain ⟨es, clock, h1, F, hs, hD⟩ := h;exact ⟨es, clock, hb.trans h1, F, hs, hD⟩
theorem StAt.below {W W' : World} {gs bp br bc : Nat} {v : Int} {DP DR DC : DataW Value} (h : StAt W gs bp br bc v DP DR DC) (hb : Below W.heap.size W W') : StAt W' gs bp br bc v DP DR DC :=
  ⟨blk_below h.own hb, ownsMap_move h.mp (hb.block _ h.mp.lt), ownsMap_move h.mr (hb.block _ h.mr.lt), ownsMap_move h.mc (hb.block _ h.mc.lt)⟩
def Apart3 (bp br bc : Nat) : Prop := bp ≠ br ∧ bp ≠ bc ∧ br ≠ bc
set_option maxHeartbeats 1000000 in
theorem confNew_ok (w : World) : Calls Tryz.prog 4 #[] w fun e w' => ∃ gs bp br bc, e = .returned (.pointer (some ⟨gs, 0, none⟩)) ∧ w.heap.size ≤ gs ∧ w.heap.size ≤ bp ∧ w.heap.size ≤ br ∧ w.heap.size ≤ bc ∧ Apart3 bp br bc ∧ StAt w' gs bp br bc 0 (.map []) (.map []) (.map []) ∧ Below w.heap.size w w' := by
  have hmm := @run_makeMap Tryz.prog;go_enter Tryz.func4, Tryz.ntmps4;go_wp2;go_ret;have h1 := World.ownsMap_made w Tryz.prog 9 HR;have h2 := World.ownsMap_made (w.alloc (.map #[] 0)) Tryz.prog 84 HR;have h3 := World.ownsMap_made ((w.alloc (.map #[] 0)).alloc (.map #[] 0)) Tryz.prog 3 HR;have h4 := blk_new (((w.alloc (.map #[] 0)).alloc (.map #[] 0)).alloc (.map #[] 0)) (.cells #[.int .i64 0, .map (some w.heap.size), .map (some (w.heap.size + 1)), .map (some (w.heap.size + 1 + 1))] 68);simp only [World.size_alloc] at h1 h2 h3 h4;exact ⟨_, _, _, _, rfl, zO, zO, zO, zO, ⟨zO, zO, zO⟩, ⟨h4, ((h1.alloc _).alloc _).alloc _, (h2.alloc _).alloc _, h3.alloc _⟩, below_alloc (below_alloc (below_alloc (below_alloc (Below.refl _ _) _) _) _) _⟩
theorem sorted_ok {gs bp br bc : Nat} {v : Int} {DP DR DC : DataW Value} {w : World} (h : StAt w gs bp br bc v DP DR DC) (hN : Maps.size DR ≤ 1000000) :
    Calls Tryz.prog 21 #[.pointer (some ⟨gs, 0, none⟩)] w fun e w' => ∃ (v : Value) (ts : List PK), e = .returned v ∧ KeysP DR ts ∧ ts.length ≤ Maps.size DR ∧ w'.ownsRow w.heap.size 84 2 v ts.length (flatP ts) ∧ Below w.heap.size w w' := by
  have c2 : w.cell? ⟨gs, 2, none⟩ = some (.map (some br)) := (blk_cell h.own 2).trans rfl;have HS := zN (sortedFunc_ok br _ DR w h.mr hN);clear h;have hu := Tryz.underlying68;go_enter Tryz.func21, Tryz.ntmps21;go_wp2_with (first | (go_at_call 46; refine (keysPl _ _).mono ?_; rintro e w1 ⟨rfl, rfl⟩) | (go_at_call 45; refine HS.out.mono ?_; rintro e w2 ⟨v, ts, rfl, hk, hl, hr, hb⟩));go_ret;exact ⟨v, ts, rfl, hk, hl, hr, hb⟩
theorem sortsS (m : Nat) : AnyZ.SortsIn Tryz.prog Tryz.sorted18_ren Fence.wide m :=
  ⟨fun blk off cap ss W hH hblk hsz => callsIn_wide.2 (AnyM.slices_Sort_string Tryz.sort43 blk off cap ss W hH hblk hsz),
   fun p cap W => callsIn_wide.2 (AnyM.slices_Sort_string_none Tryz.sort43 p cap W)⟩
theorem keysS (mb : Option Nat) (W : World) : Calls Tryz.prog 19 #[.map mb] W fun e w' => e = .returned (.func (.func 44) #[] #[.pointer (some ⟨W.heap.size, 0, none⟩)]) ∧ w' = W.alloc (.cells #[.map mb] 64) :=
  (callsIn_wide (n := 5)).1 (AnyZ.keys_in Tryz.keys19 Fence.wide 5 trivial rfl mb W)
abbrev ofB (l : List UInt8) : ByteArray := ⟨l.toArray⟩
def namesOf (D : DataW Value) : List (List UInt8) := (strKeys D).mergeSort leB
set_option maxHeartbeats 1000000 in
theorem names_ok (b nn : Nat) (D0 : DataW Value) (w : World) (hown : w.ownsMap Tryz.prog 9 HR b nn D0) (hN : Maps.size D0 ≤ 1000000) :
    Calls Tryz.prog 18 #[.func (.func 44) #[] #[.pointer (some ⟨w.heap.size, 0, none⟩)]] (w.alloc (.cells #[.map (some b)] 64)) fun e w' => ∃ v : Value, e = .returned v ∧ Kd.R Kd.string 9 w' w.heap.size (fun _ => True) v ((namesOf D0).map ofB) ∧ Below w.heap.size w w' := by
  have hbl := hown.lt
  have hseq : SeqGives Fence.wide 2 Tryz.prog 44 #[.pointer (some ⟨w.heap.size, 0, none⟩)] Go.Proofs.encStr (fun ss => ss.Perm (strKeys D0)) (Maps.size D0) (w.alloc (.cells #[.map (some b)] 64)) :=
    AnyZ.keys_gives (ρ := Tryz.keys19_ren) { Tryz.keys19 with } Fence.wide _ trivial rfl zO w.heap.size b nn D0 _ (by simp) (by simp) (by
      obtain ⟨es, clock, hb, Ft, hs, hD⟩ := hown;exact ⟨es, clock, (Below.heap_alloc _ _ b hbl).trans hb, Ft, hs, hD⟩)
  have h := (callsIn_wide (n := 5)).1 (AnyZ.sorted_in Tryz.sorted18 Fence.wide 5 trivial trivial trivial trivial rfl zO (sortsS _) (enters_of Tryz.func43 zQ rfl) 44 #[.pointer (some ⟨w.heap.size, 0, none⟩)] trivial (enters_of Tryz.func44 zQ rfl) _ _ (by unfold maxLen; omega) zO _ hseq);refine h.mono ?_;rintro e w' ⟨v, ss, rfl, hS, hrow, hnil, hb⟩;have hB : Below w.heap.size w w' := (below_alloc (Below.refl _ w) _).trans (hb.mono (by simp));have e1 : ss.mergeSort (fun x y => decide (x ≤ y)) = namesOf D0 := mergeSort_of_perm hS;rw [e1] at hrow;have e2 : ss.length = (namesOf D0).length := by rw [← e1]; simp
  rw [e2] at hrow;have hrow2 := Kd.own_raise (b' := w.heap.size) hrow (fun k hk => by have := own_base hrow k hk; simp at this; omega);have e3 : (namesOf D0).map Go.Proofs.encStr = encs Value.string ((namesOf D0).map ofB) := by simp [encs, Go.Proofs.encStr, ofB]
  have e4 : (namesOf D0).length = ((namesOf D0).map ofB).length := by simp
  rw [e3, e4] at hrow2;exact ⟨v, rfl, Kd.R_of_own hrow2 (fun _ _ => trivial), hB⟩
end Go.Proofs.YtpigfccpogmeaaaGreatDoor.S
end
section
namespace Go.Proofs.YtpigfccpogmeaaaGreatDoor.S
open Go.RowKit Go.Proofs.YtpigfccpogmeaaaGreatDoorW.PrintWords Go.Proofs.YtpigfccpogmeaaaGreatDoorW.PrintLast Go.Proofs.YtpigfccpogmeaaaGreatDoorW.PrintMore
attribute [local go_sem] run_eql_slice_nil
set_option linter.unusedVariables false
set_option linter.unusedSimpArgs false
theorem info54_ : (Tryz.prog.info? 54).map (fun i => (i.zero, i.size, i.bytes)) = some (some (.agg #[(.string ⟨#[]⟩), (.string ⟨#[]⟩), (.string ⟨#[]⟩)]), 3, 48) := by kernel_rfl
theorem info62_ : (Tryz.prog.info? 62).map (fun i => (i.zero, i.size, i.bytes)) = some (some (.agg #[(.string ⟨#[]⟩), (.float .f64 0)]), 2, 24) := by kernel_rfl
theorem info58_ : (Tryz.prog.info? 58).map (fun i => (i.zero, i.size, i.bytes)) = some (some (.agg #[(.string ⟨#[]⟩), (.slice none 0 0)]), 2, 40) := by kernel_rfl
def kraw : Kd (ByteArray × (Option Addr × Nat × Nat)) := Kd.pair Kd.string (Kd.scalar (fun x : Option Addr × Nat × Nat => Value.slice x.1 x.2.1 x.2.2) (fun _ => rfl))
set_option maxHeartbeats 2000000 in
set_option maxRecDepth 100000 in
theorem clone_Route (A : Option Addr) (c : Nat) (l : List S54) (w : World) (hr : Kd.C k54 w A l.length l) (hc : l.length ≤ c) (hl : l.length ≤ 2000) :
    Calls Tryz.prog 40 #[.slice A l.length c] w fun e w' => ∃ v, e = .returned v ∧ Kd.R k54 54 w' w.heap.size (fun _ => True) v l ∧ Below w.heap.size w w' := by
  have HB := zN (Below.refl w.heap.size w);have HR := zN hr;have hu := Tryz.underlying41
  rcases A with _ | ad
  · have h0 : l = [] := by
      rcases l with _ | ⟨x, l⟩
      · rfl
      obtain ⟨ad, h, _⟩ := hr.2.2 (by simp);cases h
    subst h0;clear hr HR;go_enter Tryz.func40, Tryz.ntmps40;go_wp2;go_ret;exact ⟨_, rfl, Kd.R_nil _ _ _ _ _, HB.out⟩
  clear hr;go_enter Tryz.func40, Tryz.ntmps40;go_wp2_with (first | ((with_reducible refine gate_dst (N := 5) rfl ?_); refine Kd.R_lit k54 w.heap.size 54 ?hg (N := 5) ?hd (xs := ([] : List S54)) (inner := []) (ok := fun _ => True) (okp := fun _ => True) ?hr ?hp (fun _ hk => hk) trivial HB.out (below_size HB.out) (by simp) ?_; (case hd => rfl); (case hg => rfl); (case hr => first | (go_simp; done) | (go_simp; rfl)); (case hp => exact (Reps.none _ _)); intro v1 w1 ho hb hg_ hnew_; have HO := zN ho; have n0_ := zN hb; clear HB; have HB := n0_; clear ho hb hg_ hnew_ n0_) | ((with_reducible refine gate_dst (N := 7) rfl ?_); refine Kd.R_append_rows k54 (w0 := w) w.heap.size rfl (.tmp 5) (.tmp 6) 41 54 (.agg #[(.string ⟨#[]⟩), (.string ⟨#[]⟩), (.string ⟨#[]⟩)]) 48 rfl Tryz.underlying41 info54_ rfl (by decide) zO _ _ l _ _ _ (fun _ => True) (fun _ => False) rfl rfl HO.out (Kd.C_below HR.out HB.out) (fun _ _ h => h) (fun _ h => h.elim) (fun _ _ => trivial) HB.out (below_size HB.out) ?aL ?_; (case aL => simp only [List.length_nil]; omega); intro v2 w2 ho hb hg hat; have HO2 := zN ho; have HB2 := zN hb; clear ho hb hg hat HB HO; have HB := HB2; clear HB2));go_ret;exact ⟨_, rfl, HO2.out, HB.out⟩
set_option maxHeartbeats 2000000 in
set_option maxRecDepth 100000 in
theorem clone_Target (A : Option Addr) (c : Nat) (l : List S62) (w : World) (hr : Kd.C k62 w A l.length l) (hc : l.length ≤ c) (hl : l.length ≤ 2000) :
    Calls Tryz.prog 20 #[.slice A l.length c] w fun e w' => ∃ v, e = .returned v ∧ Kd.R k62 62 w' w.heap.size (fun _ => True) v l ∧ Below w.heap.size w w' := by
  have HB := zN (Below.refl w.heap.size w);have HR := zN hr;have hu := Tryz.underlying33
  rcases A with _ | ad
  · have h0 : l = [] := by
      rcases l with _ | ⟨x, l⟩
      · rfl
      obtain ⟨ad, h, _⟩ := hr.2.2 (by simp);cases h
    subst h0;clear hr HR;go_enter Tryz.func20, Tryz.ntmps20;go_wp2;go_ret;exact ⟨_, rfl, Kd.R_nil _ _ _ _ _, HB.out⟩
  clear hr;go_enter Tryz.func20, Tryz.ntmps20;go_wp2_with (first | ((with_reducible refine gate_dst (N := 5) rfl ?_); refine Kd.R_lit k62 w.heap.size 62 ?hg (N := 5) ?hd (xs := ([] : List S62)) (inner := []) (ok := fun _ => True) (okp := fun _ => True) ?hr ?hp (fun _ hk => hk) trivial HB.out (below_size HB.out) (by simp) ?_; (case hd => rfl); (case hg => rfl); (case hr => first | (go_simp; done) | (go_simp; rfl)); (case hp => exact (Reps.none _ _)); intro v1 w1 ho hb hg_ hnew_; have HO := zN ho; have n0_ := zN hb; clear HB; have HB := n0_; clear ho hb hg_ hnew_ n0_) | ((with_reducible refine gate_dst (N := 7) rfl ?_); refine Kd.R_append_rows k62 (w0 := w) w.heap.size rfl (.tmp 5) (.tmp 6) 33 62 (.agg #[(.string ⟨#[]⟩), (.float .f64 0)]) 24 rfl Tryz.underlying33 info62_ rfl (by decide) zO _ _ l _ _ _ (fun _ => True) (fun _ => False) rfl rfl HO.out (Kd.C_below HR.out HB.out) (fun _ _ h => h) (fun _ h => h.elim) (fun _ _ => trivial) HB.out (below_size HB.out) ?aL ?_; (case aL => simp only [List.length_nil]; omega); intro v2 w2 ho hb hg hat; have HO2 := zN ho; have HB2 := zN hb; clear ho hb hg hat HB HO; have HB := HB2; clear HB2));go_ret;exact ⟨_, rfl, HO2.out, HB.out⟩
set_option maxHeartbeats 2000000 in
set_option maxRecDepth 100000 in
theorem clone_Pool (A : Option Addr) (c : Nat) (l : List (ByteArray × (Option Addr × Nat × Nat))) (w : World) (hr : Kd.C kraw w A l.length l) (hc : l.length ≤ c) (hl : l.length ≤ 2000) :
    Calls Tryz.prog 41 #[.slice A l.length c] w fun e w' => ∃ v, e = .returned v ∧ Kd.R kraw 58 w' w.heap.size (fun _ => True) v l ∧ Below w.heap.size w w' := by
  have HB := zN (Below.refl w.heap.size w);have HR := zN hr;have hu := Tryz.underlying42
  rcases A with _ | ad
  · have h0 : l = [] := by
      rcases l with _ | ⟨x, l⟩
      · rfl
      obtain ⟨ad, h, _⟩ := hr.2.2 (by simp);cases h
    subst h0;clear hr HR;go_enter Tryz.func41, Tryz.ntmps41;go_wp2;go_ret;exact ⟨_, rfl, Kd.R_nil _ _ _ _ _, HB.out⟩
  clear hr;go_enter Tryz.func41, Tryz.ntmps41;go_wp2_with (first | ((with_reducible refine gate_dst (N := 5) rfl ?_); refine Kd.R_lit kraw w.heap.size 58 ?hg (N := 5) ?hd (xs := ([] : List (ByteArray × (Option Addr × Nat × Nat)))) (inner := []) (ok := fun _ => True) (okp := fun _ => True) ?hr ?hp (fun _ hk => hk) trivial HB.out (below_size HB.out) (by simp) ?_; (case hd => rfl); (case hg => rfl); (case hr => first | (go_simp; done) | (go_simp; rfl)); (case hp => exact (Reps.none _ _)); intro v1 w1 ho hb hg_ hnew_; have HO := zN ho; have n0_ := zN hb; clear HB; have HB := n0_; clear ho hb hg_ hnew_ n0_) | ((with_reducible refine gate_dst (N := 7) rfl ?_); refine Kd.R_append_rows kraw (w0 := w) w.heap.size rfl (.tmp 5) (.tmp 6) 42 58 (.agg #[(.string ⟨#[]⟩), (.slice none 0 0)]) 40 rfl Tryz.underlying42 info58_ rfl (by decide) zO _ _ l _ _ _ (fun _ => True) (fun _ => False) rfl rfl HO.out (Kd.C_below HR.out HB.out) (fun _ _ h => h) (fun _ h => h.elim) (fun _ _ => trivial) HB.out (below_size HB.out) ?aL ?_; (case aL => simp only [List.length_nil]; omega); intro v2 w2 ho hb hg hat; have HO2 := zN ho; have HB2 := zN hb; clear ho hb hg hat HB HO; have HB := HB2; clear HB2));go_ret;exact ⟨_, rfl, HO2.out, HB.out⟩
end Go.Proofs.YtpigfccpogmeaaaGreatDoor.S
end
section
namespace Go.Proofs.YtpigfccpogmeaaaGreatDoor.S
open Go.RowKit Go.Maps Go.Proofs.YtpigfccpogmeaaaGreatDoorW.PrintWords Go.Proofs.YtpigfccpogmeaaaGreatDoorW.PrintLast Go.Proofs.YtpigfccpogmeaaaGreatDoorW.PrintMore
set_option linter.unusedVariables false
set_option linter.unusedSimpArgs false
abbrev TRow (W : World) (base : Nat) (x : Value) (ts : List S62) : Prop := Kd.R k62 62 W base (fun _ => True) x ts
structure StC (W : World) (base : Nat) (DP DR DC : DataW Value) (f : List UInt8 → List S62) (g : PK → ByteArray) : Prop where
  pools : ∀ n, has DP (.string n) = true → ∃ x, (∀ z, DP.atKey (.string n) z = .held x) ∧ TRow W base x (f n)
  routes : ∀ x : PK, has DR x.k = true → ∀ z, DR.atKey x.k z = .held (.string (g x))
  clients : ∀ kl, has DC kl = true → ∃ a b c : Int, ∀ z, DC.atKey kl z = .held (.agg #[.int .i64 a, .int .i64 b, .int .i64 c])
def TgOk (t : S62) : Prop := t.f0.size ≤ 1048576 ∧ t.f1 < 18446744073709551616
structure StP (DP DR : DataW Value) (f : List UInt8 → List S62) (g : PK → ByteArray) : Prop where
  names : ∀ n, has DP (.string n) = true → n.length ≤ 1048576 ∧ (f n).length ≤ 100 ∧ ∀ t ∈ f n, TgOk t
  places : ∀ x : PK, has DR x.k = true → x.a.size ≤ 1048576 ∧ x.b.size ≤ 1048576 ∧ (g x).size ≤ 1048576 ∧ has DP (.string (g x).data.toList) = true
  np : Maps.size DP ≤ 200
  nr : Maps.size DR ≤ 200
def poolsL (D : DataW Value) (f : List UInt8 → List S62) : List S58 := (namesOf D).map fun n => ⟨ofB n, f n⟩
def routesL (ts : List PK) (g : PK → ByteArray) : List S54 := ts.map fun x => ⟨x.a, x.b, g x⟩
theorem StC.below {W W' : World} {base : Nat} {DP DR DC : DataW Value} {f : List UInt8 → List S62} {g : PK → ByteArray} (h : StC W base DP DR DC f g) (hb : Below W.heap.size W W') : StC W' base DP DR DC f g :=
  ⟨fun n hn => by obtain ⟨x, h1, h2⟩ := h.pools n hn; exact ⟨x, h1, Kd.R_below h2 hb⟩, h.routes, h.clients⟩
theorem yieldsIf_lookup {P : Program} {ops : Array Oper} {S : World → Prop} {op : Oper} {a : Act} (hw : Region.wanted op (yielded ops a.tmps) = true) (t : TypeId) (m x : Operand) (c : Bool) (ho : op.op = .lookup t m x c)
    (b : Nat) (hm : a.eval m = .map (some b)) (key v : Value) (hx : a.eval x = key) (hrun : ∀ w, S w → (Instr.lookup t (.map (some b)) key c).run P w = .ok v w) : YieldsIf P ops S op v a :=
  .inl ⟨hw, fun w hS => by
    unfold execOp;simp only [ho, hm, hx];simp [Sem.run_bind, hrun w hS, Result.andThen]⟩
theorem run_loadVar_any {P : Program} (w : World) (p : Addr) (ty : TypeId) (cs : List Value) (d : TypeDesc) (hc : ∀ j v, cs[j]? = some v → w.cell? (p.add j) = some v)
    (hu : P.underlying ty = some d) (hd : d.isRow = true) (hi : (P.info? ty).map (·.size) = some cs.length) :
    (loadVar ty p).run P w = .ok (.agg cs.toArray) w := by
  have hl : (loadCells p cs.length).run P w = .ok cs.toArray w := run_loadCells_list (P := P) w p cs hc;cases hq : P.info? ty with
  | none => simp [hq] at hi
  | some i =>
    have hs : i.size = cs.length := by simpa [hq] using hi
    have hagg : (isAgg ty).run P w = .ok true w := by
      unfold isAgg;rw [Sem.run_bind, run_underlying hu w];cases d <;> simp_all
    simp [loadVar, Sem.run_bind, hagg, sizeOf, typeInfo, hq, hs, hl]
theorem wp_load_any {P : Program} {op : Oper} {a : Act} {w : World} {K : Act → World → Prop} {Q : Exit → Act → World → Prop} (ty : TypeId) (x : Operand) (ho : op.op = .load ty x)
    (p : Addr) (hx : a.eval x = .pointer (some p)) (cs : List Value) (d : TypeDesc) (hc : ∀ j v, cs[j]? = some v → w.cell? (p.add j) = some v)
    (hu : P.underlying ty = some d) (hd : d.isRow = true) (hi : (P.info? ty).map (·.size) = some cs.length)
    (h : K (a.put op.dst (.agg cs.toArray)) w) : op.wp P a w K Q := by
  unfold Oper.wp execOp;simp only [ho, hx, Instr.loadAt, Instr.sureAddr, Sem.run_bind, Sem.run_pure, Result.andThen_ok, run_loadVar_any w p ty cs d hc hu hd hi];exact h
theorem wpList_load_any {P : Program} {ops : Array Oper} {rest : List Oper} {op : Oper} {a : Act} {w : World} {Q : Exit → Act → World → Prop} (hgd : op.guard = none) (ty : TypeId) (x : Operand) (ho : op.op = .load ty x)
    (p : Addr) (hx : a.eval x = .pointer (some p)) (cs : List Value) (d : TypeDesc) (hc : ∀ j v, cs[j]? = some v → w.cell? (p.add j) = some v)
    (hu : P.underlying ty = some d) (hd : d.isRow = true) (hi : (P.info? ty).map (·.size) = some cs.length)
    (h : wpList P ops Q rest (a.put op.dst (.agg cs.toArray)) w) : wpList P ops Q (op :: rest) a w :=
  wpList_plain hgd fun _ hK => wp_load_any ty x ho p hx cs d hc hu hd hi (hK _ _ h)
theorem yieldsIf_load_any {P : Program} {ops : Array Oper} {S : World → Prop} {op : Oper} {a : Act} (hw : Region.wanted op (yielded ops a.tmps) = true) (ty : TypeId) (x : Operand) (ho : op.op = .load ty x)
    (p : Addr) (hx : a.eval x = .pointer (some p)) (cs : List Value) (d : TypeDesc) (hS : ∀ w, S w → ∀ j v, cs[j]? = some v → w.cell? (p.add j) = some v)
    (hu : P.underlying ty = some d) (hd : d.isRow = true) (hi : (P.info? ty).map (·.size) = some cs.length) : YieldsIf P ops S op (.agg cs.toArray) a :=
  .inl ⟨hw, fun w hw' => by
    unfold execOp;simp only [ho, hx, Instr.loadAt, Instr.sureAddr, Sem.run_bind, Sem.run_pure, Result.andThen_ok, run_loadVar_any w p ty cs d (hS w hw') hu hd hi]⟩
theorem mem_names {D : DataW Value} {b nn : Nat} {W : World} (hown : W.ownsMap Tryz.prog 9 HR b nn D) {n : List UInt8} : n ∈ namesOf D ↔ has D (.string n) = true := by
  unfold namesOf;rw [List.mem_mergeSort];obtain ⟨es, rfl, hk⟩ := hown.keysOf
  show n ∈ es.map (fun p => strOf p.1) ↔ es.any (fun p => p.1.sameKey (.string n)) = true
  rw [List.mem_map, List.any_eq_true]
  constructor
  · rintro ⟨p, hp, rfl⟩;obtain ⟨v, hv⟩ := hk p hp;obtain ⟨x, _, hx, _⟩ := Maps.keyOf_str Tryz.underlying9 hv;exact ⟨p, hp, by rw [hx]; simp [Lit.sameKey, strOf]⟩
  rintro ⟨p, hp, hs⟩;obtain ⟨v, hv⟩ := hk p hp;obtain ⟨x, _, hx, _⟩ := Maps.keyOf_str Tryz.underlying9 hv;rw [hx] at hs;exact ⟨p, hp, by rw [hx]; simpa [Lit.sameKey, strOf] using hs⟩
theorem names_length {D : DataW Value} {b nn : Nat} {W : World} (hown : W.ownsMap Tryz.prog 9 HR b nn D) : (namesOf D).length = Maps.size D := by
  unfold namesOf;rw [List.length_mergeSort];obtain ⟨es, rfl, _⟩ := hown.keysOf;simp [strKeys, Maps.size]
def kPK : Kd PK := Kd.iso (Kd.pair Kd.string Kd.string) (fun x : PK => (x.a, x.b))
theorem reps_PK (W : World) (base : Nat) (ok : Nat → Prop) : ∀ ts : List PK, Reps (kPK.M W base ok) 2 ts (flatP ts)
  | [] => Reps.none _ _
  | x :: r => Reps.c2 (va := .string x.a) (vb := .string x.b) ⟨[.string x.a], [.string x.b], rfl, rfl, rfl⟩ (reps_PK W base ok r)
theorem places_R {W : World} {base : Nat} {v : Value} {ts : List PK} (h : W.ownsRow base 84 2 v ts.length (flatP ts)) : Kd.R kPK 84 W base (fun _ => True) v ts := ⟨fun _ _ => trivial, flatP ts, h, reps_PK W base _ ts⟩
theorem at_PK {W : World} {A : Option Addr} {ts : List PK} (h : Kd.C kPK W A ts.length ts) {i : Nat} (hi : i < ts.length) : ∃ ad, A = some ad ∧ ∀ (j : Nat) (u : Value), ([.string ts[i].a, .string ts[i].b] : List Value)[j]? = some u → W.cell? ((ad.add (i * 2)).add j) = some u := by
  obtain ⟨ad, c, hA, _, hK, hc⟩ := Kd.C_get h (default : PK) (i : Int) (Int.natCast_nonneg i) (Int.ofNat_lt.mpr hi);refine ⟨ad, hA, fun j u hu => ?_⟩;rw [Int.toNat_natCast] at hK hc;obtain ⟨c1, c2, rfl, rfl, rfl⟩ := hK;rw [add_add];refine hc j u ?_;rw [List.getD_eq_getElem?_getD, zr hi];exact hu
theorem infoRt : (Tryz.prog.info? 54).map (fun i => (i.zero, i.size, i.bytes)) = some (some (.agg #[(.string ⟨#[]⟩), (.string ⟨#[]⟩), (.string ⟨#[]⟩)]), 3, 48) := by kernel_rfl
theorem infoPo : (Tryz.prog.info? 58).map (fun i => (i.zero, i.size, i.bytes)) = some (some (.agg #[(.string ⟨#[]⟩), (.slice none 0 0)]), 2, 40) := by kernel_rfl
theorem zeroTs (w : World) : (zeroValue 33).run Tryz.prog w = .ok (.slice none 0 0) w := by kernel_rfl
theorem zeroStr (w : World) : (zeroValue 9).run Tryz.prog w = .ok (.string ⟨#[]⟩) w := by kernel_rfl
theorem store_step {P : Program} {ops : Array Oper} {op : Oper} {a : Act} {W W1 : World} {K : Act → World → Prop} {Q : Exit → Act → World → Prop} (hw : Region.wanted op (yielded ops a.tmps) = true) (t : TypeId) (x y : Operand) (ho : op.op = .store t x y)
    (p : Addr) (v : Value) (hx : a.eval x = .pointer (some p)) (hy : a.eval y = v) (hrun : (Instr.storeAt t (.pointer (some p)) v).run P W = .ok () W1) (h : K (a.put op.dst undef) W1) :
    if Region.wanted op (yielded ops a.tmps) = true then Oper.wp P op a W K Q else K (a.put op.dst undef) W := by
  rw [zp hw];unfold Oper.wp execOp;simp only [ho, hx, hy, hrun, Sem.run_bind, Sem.run_pure, Result.andThen_ok];exact h
theorem map_ne {k : TypeId} {W : World} {b n : Nat} {D : DataW Value} (h : W.ownsMap Tryz.prog k HR b n D) {q : Nat} {cs : Array Value} {t : TypeId} {z : Nat × Nat} (hq : W.heap[q]? = some (.cells cs t z)) : b ≠ q := by
  obtain ⟨es, clock, hb, _⟩ := h;rintro rfl;rw [hb] at hq;cases hq
theorem blk_ne {W : World} {g q : Nat} {cs cs' : Array Value} {t t' : TypeId} {z z' : Nat × Nat} (h : W.heap[g]? = some (.cells cs t z)) (hq : W.heap[q]? = some (.cells cs' t' z')) (ht : t ≠ t') : g ≠ q := by
  rintro rfl;rw [h] at hq;injection hq with h1
  injection h1 with _ h2 _
  exact ht h2
section
variable {W W' : World} {gs bp br bc : Nat} {v : Int} {DP DR DC : DataW Value}
theorem StAt.move (h : StAt W gs bp br bc v DP DR DC) {q : Nat} (hm : ∀ k, k < W.heap.size → k ≠ q → W'.heap[k]? = W.heap[k]?) {cs : Array Value} {t : TypeId} {z : Nat × Nat} (hq : W.heap[q]? = some (.cells cs t z)) (ht : 68 ≠ t) : StAt W' gs bp br bc v DP DR DC :=
  ⟨(hm _ (blk_lt h.own) (blk_ne h.own hq ht)).trans h.own, ownsMap_move h.mp (hm _ h.mp.lt (map_ne h.mp hq)), ownsMap_move h.mr (hm _ h.mr.lt (map_ne h.mr hq)), ownsMap_move h.mc (hm _ h.mc.lt (map_ne h.mc hq))⟩
theorem StAt.over (h : StAt W gs bp br bc v DP DR DC) {row : Option Nat} {t : TypeId} (hty : ∀ k, row = some k → ∃ cs, W.heap[k]? = some (.cells cs t (0, 0))) (ht : 68 ≠ t) (hg : W.grownBy W' row) : StAt W' gs bp br bc v DP DR DC := by
  cases row with
  | none => exact ⟨(hg.block _ (blk_lt h.own) (by simp)).trans h.own, ownsMap_move h.mp (hg.block _ h.mp.lt (by simp)), ownsMap_move h.mr (hg.block _ h.mr.lt (by simp)), ownsMap_move h.mc (hg.block _ h.mc.lt (by simp))⟩
  | some q =>
    obtain ⟨cs, hq⟩ := hty q rfl;exact h.move (fun k hk hne => hg.block k hk (fun e => hne (zo e))) hq ht
theorem StAt.set (h : StAt W gs bp br bc v DP DR DC) {q : Nat} {cs : Array Value} {t : TypeId} {z : Nat × Nat} (hq : W.heap[q]? = some (.cells cs t z)) (ht : 68 ≠ t) (j : Nat) (u : Value) : StAt (W.setCell ⟨q, j, none⟩ u) gs bp br bc v DP DR DC :=
  h.move (fun k _ hne => Below.heap_setCell W ⟨q, j, none⟩ u k hne) hq ht
theorem blk_over {g : Nat} {cs : Array Value} {t e' : TypeId} {z : Nat × Nat} (h : W.heap[g]? = some (.cells cs t z)) {row : Option Nat} (hty : ∀ k, row = some k → ∃ cs, W.heap[k]? = some (.cells cs e' (0, 0))) (ht : t ≠ e') (hg : W.grownBy W' row) : W'.heap[g]? = some (.cells cs t z) :=
  (hg.block g (blk_lt h) (fun e => by obtain ⟨_, hq⟩ := hty g e.symm; exact blk_ne h hq ht rfl)).trans h
variable {base : Nat} {f : List UInt8 → List S62} {g : PK → ByteArray}
theorem StC.over (h : StC W base DP DR DC f g) {u : Value} {t : TypeId} (hty : ∀ k, u.ownBlock = some k → ∃ cs, W.heap[k]? = some (.cells cs t (0, 0))) (ht : 62 ≠ t) (hg : W.grownBy W' u.ownBlock) : StC W' base DP DR DC f g :=
  ⟨fun n hn => by obtain ⟨x, h1, h2⟩ := h.pools n hn; exact ⟨x, h1, Kd.R_over' (v := u) h2 hty (by intro q hq; rcases List.mem_cons.1 hq with rfl | hq; exact ht; cases hq) hg⟩, h.routes, h.clients⟩
theorem StC.set (h : StC W base DP DR DC f g) {q : Nat} {cs : Array Value} {t : TypeId} (hq : W.heap[q]? = some (.cells cs t (0, 0))) (ht : 62 ≠ t) (j : Nat) (u : Value) : StC (W.setCell ⟨q, j, none⟩ u) base DP DR DC f g :=
  ⟨fun n hn => by obtain ⟨x, h1, h2⟩ := h.pools n hn; exact ⟨x, h1, Kd.R_set h2 hq (by intro q hq; rcases List.mem_cons.1 hq with rfl | hq; exact ht; cases hq) j u⟩, h.routes, h.clients⟩
theorem StAt.drew (h : StAt W gs bp br bc v DP DR DC) : StAt W.drew gs bp br bc v DP DR DC := h.below (below_drew1 (Below.refl _ _))
theorem StC.drew (h : StC W base DP DR DC f g) : StC W.drew base DP DR DC f g := h.below (below_drew1 (Below.refl _ _))
theorem StAt.keptRow (h : StAt W gs bp br bc v DP DR DC) {u : Value} {t : TypeId} (hk : Kept W W' (fun k => some k = u.ownBlock)) (hty : ∀ k, u.ownBlock = some k → ∃ cs, W.heap[k]? = some (.cells cs t (0, 0))) (ht : 68 ≠ t) : StAt W' gs bp br bc v DP DR DC := by
  have hn : ∀ k, k < W.heap.size → (∀ cs z, W.heap[k]? ≠ some (.cells cs t z)) → W'.heap[k]? = W.heap[k]? := fun k hlt hne => hk.2 k hlt (fun e => by obtain ⟨cs, hq⟩ := hty k e.symm; exact hne _ _ hq)
  refine ⟨(hn _ (blk_lt h.own) (fun cs z hq => blk_ne h.own hq ht rfl)).trans h.own, ownsMap_move h.mp (hn _ h.mp.lt (fun cs z hq => map_ne h.mp hq rfl)), ownsMap_move h.mr (hn _ h.mr.lt (fun cs z hq => map_ne h.mr hq rfl)), ownsMap_move h.mc (hn _ h.mc.lt (fun cs z hq => map_ne h.mc hq rfl))⟩
theorem R_keptRow {α : Type} {d : Kd α} {e b : Nat} {ok : Nat → Prop} {x : Value} {xs : List α} (h : d.R e W b ok x xs) {u : Value} {t : TypeId} (hk : Kept W W' (fun k => some k = u.ownBlock)) (hty : ∀ k, u.ownBlock = some k → ∃ cs, W.heap[k]? = some (.cells cs t (0, 0))) (ht : ∀ q, q ∈ e :: d.E → q ≠ t) : d.R e W' b ok x xs := by
  refine Kd.R_mono (Kd.R_move (Kd.R_bound h) (fun k hk2 => hk.2 k hk2.2.2.1 (fun he => ?_))) (fun _ hk => hk.1);obtain ⟨_, _, _, q, hq, cells, hc⟩ := hk2;obtain ⟨cs, hq2⟩ := hty k he.symm;exact blk_ne hc hq2 (ht q hq) rfl
theorem StC.keptRow (h : StC W base DP DR DC f g) {u : Value} {t : TypeId} (hk : Kept W W' (fun k => some k = u.ownBlock)) (hty : ∀ k, u.ownBlock = some k → ∃ cs, W.heap[k]? = some (.cells cs t (0, 0))) (ht : 62 ≠ t) : StC W' base DP DR DC f g :=
  ⟨fun n hn => by obtain ⟨x, h1, h2⟩ := h.pools n hn; exact ⟨x, h1, R_keptRow h2 hk hty (by intro q hq; rcases List.mem_cons.1 hq with rfl | hq; exact ht; cases hq)⟩, h.routes, h.clients⟩
theorem blk_keptRow {g : Nat} {cs : Array Value} {t e' : TypeId} {z : Nat × Nat} (h : W.heap[g]? = some (.cells cs t z)) {u : Value} (hk : Kept W W' (fun k => some k = u.ownBlock)) (hty : ∀ k, u.ownBlock = some k → ∃ cs, W.heap[k]? = some (.cells cs e' (0, 0))) (ht : t ≠ e') : W'.heap[g]? = some (.cells cs t z) :=
  (hk.2 g (blk_lt h) (fun e => by obtain ⟨_, hq⟩ := hty g e.symm; exact blk_ne h hq ht rfl)).trans h
end
open Go.RowKit Go.Proofs.YtpigfccpogmeaaaGreatDoorW.PrintWords Go.Proofs.YtpigfccpogmeaaaGreatDoorW.PrintLast Go.Proofs.YtpigfccpogmeaaaGreatDoorW.PrintMore
theorem number_w : ∀ (f : Nat) (k : Nat) (l : List Int) (n : Int), 0 ≤ n → n < 2 ^ (7 * f) → 0 < f → f ≤ k → l.length + f < 140737488355328 → ∃ r, wire_number.l0 k l n = some r ∧ r.length ≤ l.length + f
  | 0, _, _, _, _, _, h, _, _ => absurd h zO
  | f + 1, 0, _, _, _, _, _, h, _ => absurd h zO
  | f + 1, k + 1, l, n, h0, h1, _, hk, hl => by
    unfold wire_number.l0;by_cases hn : n < 128
    · rw [zn zO, zp zO];exact ⟨_, rfl, by simp⟩
    rw [zp zO, zp zO];cases f with
    | zero => exact absurd h1 zO
    | succ f =>
      have e : (2 : Int) ^ (7 * (f + 1 + 1)) = 128 * 2 ^ (7 * (f + 1)) := by rw [show 7 * (f + 1 + 1) = 7 * (f + 1) + 7 by omega, Int.pow_add]; omega
      rw [e] at h1;obtain ⟨r, h2, h3⟩ := number_w (f + 1) k (l ++ [(Go.bits .or .i64 (Go.bits .and .i64 n 127) 128) % 256]) (n / 128) zO zO zO zO (by simp; omega);exact ⟨r, h2, by simp at h3; omega⟩
theorem num_some (k : Nat) (hk : 7 ≤ k) (l : List Int) (n : Int) (hl : l.length ≤ 1000000000000) : ∃ r, conf_num.f k l n = some r ∧ r.length ≤ l.length + 7 := by
  unfold conf_num.f wire_Number.f;by_cases h0 : n < 0
  · rw [zp h0];refine ⟨l ++ [], ?_, by simp⟩;simp only [Option.bind_some, List.length_nil];rw [zp zO]
  rw [zn h0];by_cases h1 : n > 1099511627776
  · rw [zp h1];refine ⟨l ++ [], ?_, by simp⟩;simp only [Option.bind_some, List.length_nil];rw [zp zO]
  rw [zn h1];obtain ⟨r, h2, h3⟩ := number_w 7 k [] n zO zO zO hk (by simp);refine ⟨l ++ r, ?_, by simp at h3 ⊢; omega⟩;unfold wire_number.f;rw [h2];simp only [Option.bind_some];simp at h3;rw [zp zO]
theorem text_some (k : Nat) (hk : 7 ≤ k) (l : List Int) (s : ByteArray) (hl : l.length ≤ 400000000000) (hs : s.size ≤ 1048576) : ∃ r, conf_text.f k l s = some r ∧ r.length ≤ l.length + 1048583 := by
  unfold conf_text.f;obtain ⟨r, h1, h2⟩ := num_some k hk l (s.size : Int) zO;rw [h1];simp only [Option.bind_some];rw [zp zO];exact ⟨_, rfl, by rw [List.length_append, bytesOf_length]; omega⟩
theorem float_l0 : ∀ (j k : Nat) (l : List Int) (b : Nat), j ≤ 8 → j + 1 < k → l.length + j ≤ 500000000000 → ∃ r, conf_float.l0 k l b (8 * (j : Int) - 8) = some r ∧ r.length = l.length + j
  | 0, 0, _, _, _, h, _ => absurd h zO
  | 0, k + 1, l, b, _, _, _ => ⟨l, by unfold conf_float.l0; rw [zn zO], rfl⟩
  | j + 1, 0, _, _, _, h, _ => absurd h zO
  | j + 1, k + 1, l, b, hj, hk, hl => by
    unfold conf_float.l0;rw [zp zO, zp zO, zp zO];obtain ⟨r, h1, h2⟩ := float_l0 j k (l ++ [(shr .u64 (b : Int) (8 * ((j + 1 : Nat) : Int) - 8)) % 256]) b zO zO (by simp; omega);refine ⟨r, ?_, by simp at h2; omega⟩;rw [show wrap64 (8 * ((j + 1 : Nat) : Int) - 8 - 8) = 8 * (j : Int) - 8 by unfold wrap64; omega];exact h1
theorem float_some (k : Nat) (hk : 12 ≤ k) (l : List Int) (b : Nat) (hl : l.length ≤ 400000000000) : ∃ r, conf_float.f k l b = some r ∧ r.length ≤ l.length + 8 := by
  obtain ⟨r, h1, h2⟩ := float_l0 8 k l b zO zO zO;exact ⟨r, h1, zO⟩
theorem row_l0 (ts : List S62) (hn : ts.length ≤ 100) (hs : ∀ t ∈ ts, t.f0.size ≤ 1048576) : ∀ (m i k : Nat) (l : List Int), i + m = ts.length → m + 14 ≤ k → l.length + m * 1048591 ≤ 300000000000 → ∃ r, conf_row.l0 k l ts (ts.length : Int) (i : Int) = some r ∧ r.length ≤ l.length + m * 1048591
  | _, _, 0, _, _, h, _ => absurd h zO
  | 0, i, k + 1, l, h, _, _ => ⟨l, by unfold conf_row.l0; rw [zn zO], zO⟩
  | m + 1, i, k + 1, l, h, hk, hl => by
    unfold conf_row.l0;rw [zp zO, zp zO, zp zO];have hi : i < ts.length := by omega
    have hm : rd_T62 ts (i : Int) ∈ ts := by
      unfold rd_T62;rw [Int.toNat_natCast, List.getD_eq_getElem?_getD, zr hi];exact List.getElem_mem hi
    obtain ⟨r1, h1, h2⟩ := text_some k zO l (rd_T62 ts (i : Int)).f0 zO (hs _ hm);rw [h1];simp only [Option.bind_some];obtain ⟨r2, h3, h4⟩ := float_some k zO r1 (rd_T62 ts (i : Int)).f1 zO;rw [h3];simp only [Option.bind_some];obtain ⟨r3, h5, h6⟩ := row_l0 ts hn hs m (i + 1) k r2 zO zO zO;refine ⟨r3, ?_, zO⟩;rw [show wrap64 ((i : Int) + 1) = ((i + 1 : Nat) : Int) by unfold wrap64; omega];exact h5
theorem row_some (k : Nat) (hk : 120 ≤ k) (ts : List S62) (hn : ts.length ≤ 100) (hs : ∀ t ∈ ts, t.f0.size ≤ 1048576) (l : List Int) (hl : l.length ≤ 100000000000) : ∃ r, conf_row.f k l ts = some r ∧ r.length ≤ l.length + 104859107 := by
  unfold conf_row.f;obtain ⟨r1, h1, h2⟩ := num_some k zO l (ts.length : Int) zO;rw [h1];simp only [Option.bind_some];obtain ⟨r, h3, h4⟩ := row_l0 ts hn hs ts.length 0 k r1 zO zO zO;exact ⟨r, h3, zO⟩
noncomputable def sb_T5 : Bool × List (List Nat × List Nat) := rtab .any (opsOf Tryz.f39 5)
theorem sb_T5_is : rtab .any (opsOf Tryz.f39 5) = sb_T5 := rfl
noncomputable def sb_T11 : Bool × List (List Nat × List Nat) := rtab .any (opsOf Tryz.f39 11)
theorem sb_T11_is : rtab .any (opsOf Tryz.f39 11) = sb_T11 := rfl
set_option maxHeartbeats 16000000 in
set_option maxRecDepth 100000 in
theorem storeBytes_ok {gs bp br bc : Nat} {v : Int} {DP DR DC : DataW Value} {f : List UInt8 → List S62} {g : PK → ByteArray} {w : World} {base : Nat} (h : StAt w gs bp br bc v DP DR DC) (hc : StC w base DP DR DC f g) (hp : StP DP DR f g) :
    Calls Tryz.prog 39 #[.pointer (some ⟨gs, 0, none⟩), .slice none 0 0] w fun e w' => ∃ A n c, e = .returned (.slice A n c) ∧ n ≤ 1000000000000 ∧ Below w.heap.size w w' := by
  have HS := zN h;have HC := zN hc;have HP := zN hp;clear h hc hp;have HB := zN (Below.refl w.heap.size w);have HO := zN (Kd.R_nil (Kd.int .u8) 5 w w.heap.size (fun _ => True));have huS := Tryz.underlying68;have huP := Tryz.underlying84;have c1 : w.cell? ⟨gs, 1, none⟩ = some (.map (some bp)) := (blk_cell HS.out.own 1).trans rfl;obtain ⟨r0, hr0, hl0⟩ := num_some 7 (zh _) [] (Maps.size DP : Int) (by simp);have HR0 := zN hr0;have HL0 := zN hl0;clear hr0 hl0;go_enter Tryz.func39, Tryz.ntmps39;go_upto_region 2 with (first | (at_len; refine wpList_len_own _ rfl _ 64 rfl 9 33 Tryz.underlying64 HR bp _ DP rfl HS.out.mp ?_) | (go_at_call 69; refine (conf_num.calls 7 (fun k_ => some k_ = (.slice none 0 0 : Value).ownBlock) (.slice none 0 0) [] _ r0 w _ HB.out (Kd.R_tight rfl HO.out) HR0.out).mono ?_; rintro e w1 ⟨v1, rfl, hR, hb, hk⟩; obtain ⟨A1, k1, rfl⟩ := Kd.R_slice hR; replace HS := zN (HS.out.keptRow hk (Kd.R_typed HO.out) (by decide)); replace HC := zN (HC.out.keptRow hk (Kd.R_typed HO.out) (by decide)); replace HB := zN hb; replace HO := zN (Kd.R_mono hR (fun _ _ => trivial)); clear hR hb hk))
  clear c1 HR0;have c1 : w1.cell? ⟨gs, 1, none⟩ = some (.map (some bp)) := (blk_cell HS.out.own 1).trans rfl;obtain ⟨ns, hns⟩ : ∃ ns, ns = (namesOf DP).map ofB := ⟨_, rfl⟩;have HNS := zN hns;have hnl : ns.length ≤ 200 := by have := names_length HS.out.mp; have := HP.out.np; rw [hns, List.length_map]; omega
  have HNL := zN hnl;clear hns hnl;go_wp2_with (first | (go_at_call 19; refine (keysS _ _).mono ?_; rintro e w3 ⟨rfl, rfl⟩) | (go_at_call 18; refine (names_ok bp _ DP w1 HS.out.mp (by have := HP.out.np; omega)).mono ?_; rintro e w3 ⟨v21, rfl, hR, hb⟩; rw [← HNS.out] at hR; obtain ⟨An, cn, rfl⟩ := Kd.R_slice hR; have HNR := zN (Kd.R_lower hR HB.out.size); clear hR c1; replace HS := zN (HS.out.below hb); replace HC := zN (HC.out.below hb); replace HB := zN (below_step HB.out hb); replace HO := zN (Kd.R_below HO.out hb); clear hb));go_loopg [1, 23] ns.length (fun n v1 v23 wr => ∃ (i : Nat) (A : Option Addr) (c : Nat) (l : List Int), v1 = .slice A l.length c ∧ v23 = .int .i64 (i : Int) ∧ Aside0 (i + n = ns.length) ∧ Aside0 (l.length ≤ 7 + i * 106000000) ∧ Aside0 (StAt wr gs bp br bc v DP DR DC) ∧ Aside0 (StC wr base DP DR DC f g) ∧ Aside0 (Below w.heap.size w wr) ∧ Aside0 (Kd.R (Kd.int .u8) 5 wr w.heap.size (fun _ => True) (.slice A l.length c) l) ∧ Aside0 (Kd.R Kd.string 9 wr w.heap.size (fun _ => True) (.slice An ns.length cn) ns))
  case atStart => exact ⟨0, A1, k1, r0, rfl, rfl, ⟨zO⟩, ⟨by have := HL0.out; simp at this; omega⟩, HS, HC, HB, HO, HNR⟩
  case round =>
    clear HS HC HB HO HNR HL0;obtain ⟨i, A, c, l, rfl, rfl, HN, HLL, HS, HC, HB, HO, HNR⟩ := hrel;by_cases hi : i < ns.length;rotate_left
    · have d1 : decide ((i : Int) < (ns.length : Int)) = false := zf zO;obtain rfl : i = ns.length := by have := HN.out; omega
      clear hi;obtain ⟨r1, hr1, hl1⟩ := num_some 7 (zh _) l (Maps.size DR : Int) (by have := HLL.out; have := HNL.out; omega);have HR0 := zN hr1;have HL1 := zN (show r1.length ≤ 30000000000 by have := HLL.out; have := HNL.out; omega);clear hr1 hl1 HNR HLL;go_upto_region 7 with (fail)
      have c2 : wr.cell? ⟨gs, 2, none⟩ = some (.map (some br)) := (blk_cell HS.out.own 2).trans rfl;go_upto_region 8 with (first | (at_len; refine wpList_len_own _ rfl _ 65 rfl 84 9 Tryz.underlying65 HR br _ DR rfl HS.out.mr ?_) | (go_at_call 69; refine (conf_num.calls 7 (fun k_ => some k_ = ((.slice A l.length c) : Value).ownBlock) (.slice A l.length c) l _ r1 w _ HB.out (Kd.R_tight rfl HO.out) HR0.out).mono ?_; rintro e w1 ⟨v1, rfl, hR, hb, hk⟩; obtain ⟨A1, k1, rfl⟩ := Kd.R_slice hR; replace HS := zN (HS.out.keptRow hk (Kd.R_typed HO.out) (by decide)); replace HC := zN (HC.out.keptRow hk (Kd.R_typed HO.out) (by decide)); replace HB := zN hb; replace HO := zN (Kd.R_mono hR (fun _ _ => trivial)); clear hR hb hk))
      clear c2 HR0;go_wp2_with ((go_at_call 21; refine (sorted_ok HS.out (by have := HP.out.nr; omega)).mono ?_; rintro e w7 ⟨v43, ts, rfl, hk, hl, hrow, hb⟩; have hR := places_R hrow; clear hrow; obtain ⟨Ap, cp, rfl⟩ := Kd.R_slice hR; have HTR := zN (Kd.R_lower hR HB.out.size); have HK := zN hk; have HTL := zN (Nat.le_trans hl HP.out.nr : ts.length ≤ 200); clear hR hk hl; replace HS := zN (HS.out.below hb); replace HC := zN (HC.out.below hb); replace HB := zN (below_step HB.out hb); replace HO := zN (Kd.R_below HO.out hb); clear hb));go_loopg [1, 48] ts.length (fun n v1 v48 wr => ∃ (i : Nat) (A : Option Addr) (c : Nat) (l : List Int), v1 = .slice A l.length c ∧ v48 = .int .i64 (i : Int) ∧ Aside0 (i + n = ts.length) ∧ Aside0 (l.length ≤ 30000000000 + i * 4000000) ∧ Aside0 (StAt wr gs bp br bc v DP DR DC) ∧ Aside0 (StC wr base DP DR DC f g) ∧ Aside0 (Below w.heap.size w wr) ∧ Aside0 (Kd.R (Kd.int .u8) 5 wr w.heap.size (fun _ => True) (.slice A l.length c) l) ∧ Aside0 (Kd.R kPK 84 wr w.heap.size (fun _ => True) (.slice Ap ts.length cp) ts))
      case atStart => exact ⟨0, A1, k1, r1, rfl, rfl, ⟨zO⟩, ⟨by have := HL1.out; omega⟩, HS, HC, HB, HO, HTR⟩
      case round =>
        clear HS HC HB HO HTR HL1 HN;obtain ⟨i, A, c, l, rfl, rfl, HN, HLL, HS, HC, HB, HO, HTR⟩ := hrel;by_cases hi : i < ts.length;rotate_left
        · have d1 : decide ((i : Int) < (ts.length : Int)) = false := zf zO;obtain rfl : i = ts.length := by have := HN.out; omega
          clear hi;go_wp2;go_ret;refine ⟨A, l.length, ⟨c, rfl⟩, ?_, HB.out⟩;have := HLL.out; have := HTL.out; omega
        have d1 : decide ((i : Int) < (ts.length : Int)) = true := zt zO;have d2 := zu (Int.natCast_nonneg i);have d3 := zu (Int.ofNat_lt.mpr hi);have HI := zN hi;obtain ⟨j', hj'⟩ : ∃ j' : Nat, j' = i + 1 := ⟨_, rfl⟩;have hwj : wrap64 ((i : Int) + 1) = (j' : Int) := by have := HTL.out; subst hj'; unfold wrap64; omega
        have HJ' := zN hj';obtain ⟨ad, hA, hcell⟩ := at_PK (Kd.R_reads' HTR.out).2.2 hi;have hin : ts[i]? = some ts[i] := zr hi;generalize ts[i] = x at hcell hin;have hhas : has DR x.k = true := (HK.out.2.1 x).1 (List.mem_of_getElem? hin);have HH := zN hhas;have HPN := zN (HP.out.places x hhas);have HCL := zN hcell;cases hA;clear hi hj' hin hhas hcell;go_upto_region 11 with (((with_reducible refine gate_dst (N := 51) rfl ?_); refine wpList_load_any rfl 84 (.tmp 50) rfl (ad.add (i * 2)) rfl [.string x.a, .string x.b] _ HCL.out huP rfl zQ ?_; simp only [Act.put, List.setIfInBounds_toArray, List.set_cons_zero, List.set_cons_succ]))
        clear HCL;have hb := below_alloc (Below.refl wr.heap.size wr) (.cells #[.string x.a, .string x.b] 84);have G8 := zN (blk_new wr (.cells #[.string x.a, .string x.b] 84));replace HS := zN (HS.out.below hb);replace HC := zN (HC.out.below hb);replace HB := zN (below_step HB.out hb);replace HO := zN (Kd.R_below HO.out hb);replace HTR := zN (Kd.R_below HTR.out hb);generalize hg8 : wr.heap.size = g8 at hb G8 ⊢;clear hg8;generalize wr.alloc (.cells #[.string x.a, .string x.b] 84) = wx at hb HS HC HB HO HTR G8 ⊢;clear hb;obtain ⟨r2, hr2, hl2⟩ := text_some 200 zO l x.a (by have := HLL.out; have := HI.out; have := HTL.out; omega) HPN.out.1;obtain ⟨r3, hr3, hl3⟩ := text_some 200 zO r2 x.b (by have := HLL.out; have := HI.out; have := HTL.out; omega) HPN.out.2.1;obtain ⟨r4, hr4, hl4⟩ := text_some 200 zO r3 (g x) (by have := HLL.out; have := HI.out; have := HTL.out; omega) HPN.out.2.2.1;have HT2 := zN hr2;have HT3 := zN hr3;have HT4 := zN hr4;have HTT := zN (show r4.length ≤ l.length + 4000000 by omega);clear hr2 hr3 hr4 hl2 hl3 hl4;have LK := Aside0.mk (show ∀ W_ : World, StAt W_ gs bp br bc v DP DR DC → (Instr.lookup 65 (.map (some br)) (.agg #[.string x.a, .string x.b]) false).run Tryz.prog W_ = .ok (.string (g x)) W_ from fun W_ h_ => by
          obtain ⟨v_, ps_, hrun, hv⟩ := h_.mr.lookup keyedPl Tryz.underlying65 (zeroStr _) rfl (plK_is x.ha x.hb);have hrun2 : (Instr.lookup 65 (.map (some br)) (.agg #[.string x.a, .string x.b]) false).run Tryz.prog W_ = .ok v_ W_ := hrun;rw [hrun2];have h1 := HR_inv hv;have h2 := HC.out.routes x HH.out (.held (.string ⟨#[]⟩));unfold PK.k at h2;rw [h2] at h1;injection h1 with h1
          rw [h1])
        replace HS := zN HS.out.drew;replace HC := zN HC.out.drew;replace HB := zN (below_drew1 HB.out);replace HO := zN (Kd.R_drew HO.out);replace HTR := zN (Kd.R_drew HTR.out);replace G8 := zN (blk_drew G8.out);refine start_ (n := 15) (S := fun w' => w'.cell? ⟨g8, 0, none⟩ = some (.string x.a) ∧ w'.cell? ⟨g8, 1, none⟩ = some (.string x.b) ∧ w'.cell? ⟨gs, 2, none⟩ = some (.map (some br)) ∧ (Instr.lookup 65 (.map (some br)) (.agg #[.string x.a, .string x.b]) false).run Tryz.prog w' = .ok (.string (g x)) w') (ds := []) #[false, false, false, false, false, false, false, false, false, false, false, false, false, false, false] zQ rfl rfl ⟨(blk_cell G8.out 0).trans rfl, (blk_cell G8.out 1).trans rfl, (blk_cell HS.out.own 2).trans rfl, LK.out _ HS.out⟩ (fun hHeld => ?_);refine with_tab (T := sb_T11) sb_T11_is (fun HT_ => ?_);generalize wx.drew = wd at HS HC HB HO HTR G8 hHeld ⊢;refine zU (i := 0) (N := some 52) #[true, false, false, false, false, false, false, false, false, false, false, false, false, false, false] rfl rfl HT_ ?_;refine zU (i := 1) (N := some 53) #[true, true, false, false, false, false, false, false, false, false, false, false, false, false, false] rfl rfl HT_ ?_;refine take_ (i := 2) (N := some 54) (v := ?_) (a' := ?_) #[true, true, true, false, false, false, false, false, false, false, false, false, false, false, false] rfl rfl (take_of HT_.out zQ) (fun _ _ _ h => h) (Or.inl ⟨by rfl, ?_⟩) hHeld ?_ ?_;rotate_left
        · rintro w' ⟨s0, s1, s2, s3⟩;go_simp
          with_reducible rfl
        rotate_left
        · simp only [zP];rfl
        refine zU (i := 4) (N := some 56) #[true, true, true, false, true, false, false, false, false, false, false, false, false, false, false] rfl rfl HT_ ?_;refine take_ (i := 5) (N := some 57) (v := ?_) (a' := ?_) #[true, true, true, false, true, true, false, false, false, false, false, false, false, false, false] rfl rfl (take_of HT_.out zQ) (fun _ _ _ h => h) (Or.inl ⟨by rfl, ?_⟩) hHeld ?_ ?_;rotate_left
        · rintro w' ⟨s0, s1, s2, s3⟩;go_simp
          with_reducible rfl
        rotate_left
        · simp only [zP];rfl
        refine zU (i := 7) (N := some 59) #[true, true, true, false, true, true, false, true, false, false, false, false, false, false, false] rfl rfl HT_ ?_;refine zU (i := 8) (N := some 60) #[true, true, true, false, true, true, false, true, true, false, false, false, false, false, false] rfl rfl HT_ ?_;refine zU (i := 9) (N := some 61) #[true, true, true, false, true, true, false, true, true, true, false, false, false, false, false] rfl rfl HT_ ?_;refine take_ (i := 10) (N := some 62) (v := ?_) (a' := ?_) #[true, true, true, false, true, true, false, true, true, true, true, false, false, false, false] rfl rfl (take_of HT_.out zQ) (fun _ _ _ h => h) (Or.inl ⟨by rfl, ?_⟩) hHeld ?_ ?_;rotate_left
        · rintro w' ⟨s0, s1, s2, s3⟩;go_simp
          with_reducible rfl
        rotate_left
        · simp only [zP];rfl
        refine take_ (i := 11) (N := some 63) (v := ?_) (a' := ?_) #[true, true, true, false, true, true, false, true, true, true, true, true, false, false, false] rfl rfl (take_of HT_.out zQ) (fun _ _ _ h => h) (Or.inl ⟨by rfl, ?_⟩) hHeld ?_ ?_;rotate_left
        · rintro w' ⟨s0, s1, s2, s3⟩;go_simp
          with_reducible rfl
        rotate_left
        · simp only [zP];rfl
        refine take_ (i := 12) (N := some 64) (v := .string (g x)) (a' := ?_) #[true, true, true, false, true, true, false, true, true, true, true, true, true, false, false] rfl rfl (take_of HT_.out zQ) (fun _ _ _ h => h) (yieldsIf_lookup (by rfl) 65 (.tmp 62) (.tmp 63) false rfl br rfl (.agg #[.string x.a, .string x.b]) _ rfl (fun w_ hw_ => hw_.2.2.2)) hHeld ?_ ?_;rotate_left
        · simp only [zP];rfl
        refine one_ (i := 3) (N := some 55) #[true, true, true, true, true, true, false, true, true, true, true, true, true, false, false] rfl rfl (one_of HT_.out zQ) (by decide) (fun K hK => ?_);refine goes_ Tryz.func71 zQ rfl #[.slice A l.length c, .string x.a] (by rfl) rfl rfl (by (try simp only [List.map_toArray, List.map_cons, List.map_nil]); first | done | rfl) ?_;refine (conf_text.calls 200 (fun k_ => some k_ = (.slice A l.length c : Value).ownBlock) (.slice A l.length c) l x.a r2 w _ HB.out (Kd.R_tight rfl HO.out) HT2.out).mono ?_;rintro e w_ ⟨v_, rfl, hR, hb, hk⟩;refine ⟨_, rfl, ?_⟩;obtain ⟨A3, c3, rfl⟩ := Kd.R_slice hR;replace HS := zN (HS.out.keptRow hk (Kd.R_typed HO.out) (by decide));replace HC := zN (HC.out.keptRow hk (Kd.R_typed HO.out) (by decide));replace HB := zN hb;replace HTR := zN (R_keptRow HTR.out hk (Kd.R_typed HO.out) (by decide));replace G8 := zN (blk_keptRow G8.out hk (Kd.R_typed HO.out) (by decide));replace HO := zN (Kd.R_mono hR (fun _ _ => trivial));clear hR hb hk;refine hK.out _ _ ⟨(blk_cell G8.out 0).trans rfl, (blk_cell G8.out 1).trans rfl, (blk_cell HS.out.own 2).trans rfl, LK.out _ HS.out⟩ (fun hHeld => ?_);clear hK K;refine norm_ (a' := ?_) ?_ ?_;rotate_left
        · show Act.put _ (some 55) _ = _
          simp only [zP];rfl
        refine one_ (i := 6) (N := some 58) #[true, true, true, true, true, true, true, true, true, true, true, true, true, false, false] rfl rfl (one_of HT_.out zQ) (by decide) (fun K hK => ?_);refine goes_ Tryz.func71 zQ rfl #[.slice A3 r2.length c3, .string x.b] (by rfl) rfl rfl (by (try simp only [List.map_toArray, List.map_cons, List.map_nil]); first | done | rfl) ?_;refine (conf_text.calls 200 (fun k_ => some k_ = (.slice A3 r2.length c3 : Value).ownBlock) (.slice A3 r2.length c3) r2 x.b r3 w _ HB.out (Kd.R_tight rfl HO.out) HT3.out).mono ?_;rintro e w_ ⟨v_, rfl, hR, hb, hk⟩;refine ⟨_, rfl, ?_⟩;obtain ⟨A4, c4, rfl⟩ := Kd.R_slice hR;replace HS := zN (HS.out.keptRow hk (Kd.R_typed HO.out) (by decide));replace HC := zN (HC.out.keptRow hk (Kd.R_typed HO.out) (by decide));replace HB := zN hb;replace HTR := zN (R_keptRow HTR.out hk (Kd.R_typed HO.out) (by decide));replace G8 := zN (blk_keptRow G8.out hk (Kd.R_typed HO.out) (by decide));replace HO := zN (Kd.R_mono hR (fun _ _ => trivial));clear hR hb hk;refine hK.out _ _ ⟨(blk_cell G8.out 0).trans rfl, (blk_cell G8.out 1).trans rfl, (blk_cell HS.out.own 2).trans rfl, LK.out _ HS.out⟩ (fun hHeld => ?_);clear hK K;refine norm_ (a' := ?_) ?_ ?_;rotate_left
        · show Act.put _ (some 58) _ = _
          simp only [zP];rfl
        refine one_ (i := 13) (N := some 65) #[true, true, true, true, true, true, true, true, true, true, true, true, true, true, false] rfl rfl (one_of HT_.out zQ) (by decide) (fun K hK => ?_);refine goes_ Tryz.func71 zQ rfl #[.slice A4 r3.length c4, .string (g x)] (by rfl) rfl rfl (by (try simp only [List.map_toArray, List.map_cons, List.map_nil]); first | done | rfl) ?_;refine (conf_text.calls 200 (fun k_ => some k_ = (.slice A4 r3.length c4 : Value).ownBlock) (.slice A4 r3.length c4) r3 (g x) r4 w _ HB.out (Kd.R_tight rfl HO.out) HT4.out).mono ?_;rintro e w_ ⟨v_, rfl, hR, hb, hk⟩;refine ⟨_, rfl, ?_⟩;obtain ⟨A5, c5, rfl⟩ := Kd.R_slice hR;replace HS := zN (HS.out.keptRow hk (Kd.R_typed HO.out) (by decide));replace HC := zN (HC.out.keptRow hk (Kd.R_typed HO.out) (by decide));replace HB := zN hb;replace HTR := zN (R_keptRow HTR.out hk (Kd.R_typed HO.out) (by decide));replace G8 := zN (blk_keptRow G8.out hk (Kd.R_typed HO.out) (by decide));replace HO := zN (Kd.R_mono hR (fun _ _ => trivial));clear hR hb hk;refine hK.out _ _ ⟨(blk_cell G8.out 0).trans rfl, (blk_cell G8.out 1).trans rfl, (blk_cell HS.out.own 2).trans rfl, LK.out _ HS.out⟩ (fun hHeld => ?_);clear hK K;refine norm_ (a' := ?_) ?_ ?_;rotate_left
        · show Act.put _ (some 65) _ = _
          simp only [zP];rfl
        refine zU (i := 14) (N := some 1) #[true, true, true, true, true, true, true, true, true, true, true, true, true, true, true] rfl rfl HT_ ?_;refine done_ (done_of HT_.out zQ) ?_;clear HT_;clear hHeld LK HH;go_wp2;go_roundg (ts.length - j')
        case measure => have := HN.out; have := HI.out; have := HJ'.out; omega
        case rel => exact ⟨j', A5, c5, r4, zI, zI, ⟨by have := HN.out; have := HI.out; have := HJ'.out; omega⟩, ⟨by have := HLL.out; have := HTT.out; have := HJ'.out; omega⟩, HS, HC, HB, HO, HTR⟩
    have d1 : decide ((i : Int) < (ns.length : Int)) = true := zt zO;have d2 := zu (Int.natCast_nonneg i);have d3 := zu (Int.ofNat_lt.mpr hi);have HI := zN hi;obtain ⟨j', hj'⟩ : ∃ j' : Nat, j' = i + 1 := ⟨_, rfl⟩;have hwj : wrap64 ((i : Int) + 1) = (j' : Int) := by have := HNL.out; subst hj'; unfold wrap64; omega
    have HJ' := zN hj';obtain ⟨nm, hnm, hin⟩ : ∃ nm, ns[i]? = some (ofB nm) ∧ (namesOf DP)[i]? = some nm := by have h1 := HNS.out; subst h1; rw [List.length_map] at hi; exact ⟨(namesOf DP)[i], by rw [List.getElem?_map, zr hi]; rfl, zr hi⟩
    have hhas : has DP (.string nm) = true := (mem_names HS.out.mp).1 (List.mem_of_getElem? hin);obtain ⟨ad, hA, x0⟩ := Kd.at_string (Kd.R_reads' HNR.out).2.2 (i : Int) (Int.natCast_nonneg i) (Int.ofNat_lt.mpr hi);rw [Int.toNat_natCast, show rdOf ByteArray.empty ns (i : Int) = ofB nm from by unfold rdOf; rw [Int.toNat_natCast, List.getD_eq_getElem?_getD, hnm]; rfl] at x0;cases hA;clear hi hj' hnm hin;go_upto_region 5 with (fail)
    clear x0;obtain ⟨x, hx, hxr⟩ := HC.out.pools nm hhas;obtain ⟨Ax, cx, rfl⟩ := Kd.R_slice hxr;have HX := zN hx;have HH := zN hhas;have HXR := zN hxr;clear hx hhas hxr;have HPN := zN (HP.out.names nm HH.out);obtain ⟨r1, hr1, hl1⟩ := text_some 200 zO l (ofB nm) (by have := HLL.out; have := HI.out; have := HNL.out; omega) (by have := HPN.out.1; show nm.toArray.size ≤ 1048576; simp; omega);obtain ⟨r2, hr2, hl2⟩ := row_some 200 zO (f nm) HPN.out.2.1 (fun t ht => (HPN.out.2.2 t ht).1) r1 (by have := HLL.out; have := HI.out; have := HNL.out; omega);have HT1 := zN hr1;have HT2 := zN hr2;have HTL := zN (show r2.length ≤ l.length + 106000000 by omega);clear hr1 hr2 hl1 hl2;have LK := Aside0.mk (show ∀ W_ : World, StAt W_ gs bp br bc v DP DR DC → (Instr.lookup 64 (.map (some bp)) (.string (ofB nm)) false).run Tryz.prog W_ = .ok (.slice Ax (f nm).length cx) W_ from fun W_ h_ => by
      obtain ⟨v_, ps_, hrun, hv⟩ := h_.mp.lookup keyedS Tryz.underlying64 (zeroTs _) rfl (WideMaps.keyOf_string_mk Tryz.underlying9 (s := ofB nm) (by have := HPN.out.1; show nm.toArray.size ≤ maxLen; unfold maxLen; simp; omega));rw [hrun];have h1 := HR_inv hv;rw [show (ofB nm).data.toList = nm by simp, HX.out] at h1;injection h1 with h1
      rw [h1])
    replace HS := zN HS.out.drew;replace HC := zN HC.out.drew;replace HB := zN (below_drew1 HB.out);replace HO := zN (Kd.R_drew HO.out);replace HNR := zN (Kd.R_drew HNR.out);replace HXR := zN (Kd.R_drew HXR.out);refine start_ (n := 11) (S := fun w' => w'.cell? ⟨gs, 1, none⟩ = some (.map (some bp)) ∧ (Instr.lookup 64 (.map (some bp)) (.string (ofB nm)) false).run Tryz.prog w' = .ok (.slice Ax (f nm).length cx) w') (ds := []) #[false, false, false, false, false, false, false, false, false, false, false] zQ rfl rfl ⟨(blk_cell HS.out.own 1).trans rfl, LK.out _ HS.out⟩ (fun hHeld => ?_);refine with_tab (T := sb_T5) sb_T5_is (fun HT_ => ?_);generalize wr.drew = wd at HS HC HB HO HNR HXR hHeld ⊢;refine zU (i := 0) (N := some 27) #[true, false, false, false, false, false, false, false, false, false, false] rfl rfl HT_ ?_;refine zU (i := 1) (N := some 28) #[true, true, false, false, false, false, false, false, false, false, false] rfl rfl HT_ ?_;refine zU (i := 3) (N := some 30) #[true, true, false, true, false, false, false, false, false, false, false] rfl rfl HT_ ?_;refine zU (i := 4) (N := some 31) #[true, true, false, true, true, false, false, false, false, false, false] rfl rfl HT_ ?_;refine zU (i := 5) (N := some 32) #[true, true, false, true, true, true, false, false, false, false, false] rfl rfl HT_ ?_;refine take_ (i := 6) (N := some 33) (v := ?_) (a' := ?_) #[true, true, false, true, true, true, true, false, false, false, false] rfl rfl (take_of HT_.out zQ) (fun _ _ _ h => h) (Or.inl ⟨by rfl, ?_⟩) hHeld ?_ ?_;rotate_left
    · rintro w' ⟨s0, s1⟩;go_simp
      with_reducible rfl
    rotate_left
    · simp only [zP];rfl
    refine zU (i := 7) (N := some 34) #[true, true, false, true, true, true, true, true, false, false, false] rfl rfl HT_ ?_;refine take_ (i := 8) (N := some 35) (v := .slice Ax (f nm).length cx) (a' := ?_) #[true, true, false, true, true, true, true, true, true, false, false] rfl rfl (take_of HT_.out zQ) (fun _ _ _ h => h) (yieldsIf_lookup (by rfl) 64 (.tmp 33) (.tmp 34) false rfl bp rfl (.string (ofB nm)) _ rfl (fun w_ hw_ => hw_.2)) hHeld ?_ ?_;rotate_left
    · simp only [zP];rfl
    refine one_ (i := 2) (N := some 29) #[true, true, true, true, true, true, true, true, true, false, false] rfl rfl (one_of HT_.out zQ) (by decide) (fun K hK => ?_);refine goes_ Tryz.func71 zQ rfl #[.slice A l.length c, .string (ofB nm)] (by rfl) rfl rfl (by (try simp only [List.map_toArray, List.map_cons, List.map_nil]); first | done | rfl) ?_;refine (conf_text.calls 200 (fun k_ => some k_ = (.slice A l.length c : Value).ownBlock) (.slice A l.length c) l (ofB nm) r1 w _ HB.out (Kd.R_tight rfl HO.out) HT1.out).mono ?_;rintro e w_ ⟨v_, rfl, hR, hb, hk⟩;refine ⟨_, rfl, ?_⟩;obtain ⟨A3, c3, rfl⟩ := Kd.R_slice hR;replace HS := zN (HS.out.keptRow hk (Kd.R_typed HO.out) (by decide));replace HC := zN (HC.out.keptRow hk (Kd.R_typed HO.out) (by decide));replace HB := zN hb;replace HNR := zN (R_keptRow HNR.out hk (Kd.R_typed HO.out) (by decide));replace HXR := zN (R_keptRow HXR.out hk (Kd.R_typed HO.out) (by decide));replace HO := zN (Kd.R_mono hR (fun _ _ => trivial));clear hR hb hk;refine hK.out _ _ ⟨(blk_cell HS.out.own 1).trans rfl, LK.out _ HS.out⟩ (fun hHeld => ?_);clear hK K;refine norm_ (a' := ?_) ?_ ?_;rotate_left
    · show Act.put _ (some 29) _ = _
      simp only [zP];rfl
    refine one_ (i := 9) (N := some 36) #[true, true, true, true, true, true, true, true, true, true, false] rfl rfl (one_of HT_.out zQ) (by decide) (fun K hK => ?_);refine goes_ Tryz.func70 zQ rfl #[.slice A3 r1.length c3, .slice Ax (f nm).length cx] (by rfl) rfl rfl (by (try simp only [List.map_toArray, List.map_cons, List.map_nil]); first | done | rfl) ?_;refine (conf_row.calls 200 (fun k_ => some k_ = (.slice A3 r1.length c3 : Value).ownBlock) (.slice A3 r1.length c3) r1 Ax cx (f nm) r2 w _ HB.out (Kd.R_tight rfl HO.out) (fun W_ hk_ => (Kd.R_reads' (R_keptRow HXR.out hk_ (Kd.R_typed HO.out) (by decide))).2.2) (Kd.R_reads' HXR.out).2.1 HT2.out).mono ?_;rintro e w_ ⟨v_, rfl, hR, hb, hk⟩;refine ⟨_, rfl, ?_⟩;obtain ⟨A4, c4, rfl⟩ := Kd.R_slice hR;replace HS := zN (HS.out.keptRow hk (Kd.R_typed HO.out) (by decide));replace HC := zN (HC.out.keptRow hk (Kd.R_typed HO.out) (by decide));replace HB := zN hb;replace HNR := zN (R_keptRow HNR.out hk (Kd.R_typed HO.out) (by decide));replace HXR := zN (R_keptRow HXR.out hk (Kd.R_typed HO.out) (by decide));replace HO := zN (Kd.R_mono hR (fun _ _ => trivial));clear hR hb hk;refine hK.out _ _ ⟨(blk_cell HS.out.own 1).trans rfl, LK.out _ HS.out⟩ (fun hHeld => ?_);clear hK K;refine norm_ (a' := ?_) ?_ ?_;rotate_left
    · show Act.put _ (some 36) _ = _
      simp only [zP];rfl
    refine zU (i := 10) (N := some 1) #[true, true, true, true, true, true, true, true, true, true, true] rfl rfl HT_ ?_;refine done_ (done_of HT_.out zQ) ?_;clear HT_;clear hHeld LK HX HH;go_wp2;go_roundg (ns.length - j')
    case measure => have := HN.out; have := HI.out; have := HJ'.out; omega
    case rel => exact ⟨j', A4, c4, r2, zI, zI, ⟨by have := HN.out; have := HI.out; have := HJ'.out; omega⟩, ⟨by have := HLL.out; have := HTL.out; have := HJ'.out; omega⟩, HS, HC, HB, HO, HNR⟩
end Go.Proofs.YtpigfccpogmeaaaGreatDoor.S
end
