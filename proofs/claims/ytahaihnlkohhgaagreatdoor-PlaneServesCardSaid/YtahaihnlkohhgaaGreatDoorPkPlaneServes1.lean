/- Walks and plain facts, joined out of several texts: what the row of PlaneServes leads to. -/
import Derived.Test.YtahaihnlkohhgaaGreatDoorPkPlaneServes0
import Derived.Shelf.Strings.Trim
import Derived.Shelf.Strings.SlTrimAscii
import Derived.Shelf.Small.Utf8
import Derived.Shelf.Small.Strs
import Derived.Shelf.Small.Wraps
import Derived.Shelf.Strings.Search1
import Derived.Shelf.Strings.Search2
import Derived.Shelf.Strings.Search3
import Derived.Shelf.Strings.Cut
import Derived.Shelf.Strings.Count
import Derived.Shelf.LaysM
import Derived.Shelf.Strings.Shaped
import Derived.Shelf.Strings.Prefix
import Derived.Shelf.Strings.Split
import Derived.Shelf.Strings.SplitShaped
import Derived.Shelf.Strings.Runes
import Derived.Shelf.Strings.AsciiSet
import Derived.Shelf.Unicode.DecodeSlow
import Derived.Shelf.Bytes.SlIndexSmall
import Derived.Shelf.Bytes.SlIndexAt
import Derived.Shelf.Bytes.SlSearch0
import Derived.Shelf.Bytes.SlSearch1
import Derived.Shelf.Bytes.SlSearch2
import Derived.Shelf.Bytes.SlIndexWhole
import Derived.Shelf.Bytes.Small
import Derived.Shelf.Bytes.IndexByte
import Derived.Test.YtahaihnlkohhgaaGreatDoorProg
import Derived.WalkMore
import Derived.ScopeJumps
import Derived.Lib.SlBytesConst
section
namespace Go.Proofs
open Go.Shelf
def Tryz.lays160_ren : Go.Shelf.Ren := ⟨fun | 160 => 51 | 232 => 76 | 231 => 75 | 227 => 77 | 234 => 79 | 233 => 78 | 236 => 81 | 235 => 80 | 228 => 97 | 271 => 100 | 151 => 99 | 197 => 98 | 120 => 109 | 152 => 108 | 260 => 107 | 137 => 70 | 119 => 111 | 224 => 66 | 225 => 104 | 217 => 94 | 266 => 106 | n => n, fun | 9 => 9 | 4 => 4 | 3 => 3 | 5 => 5 | 117 => 115 | 116 => 114 | 0 => 0 | 124 => 118 | 21 => 21 | 105 => 126 | 46 => 107 | 119 => 132 | 139 => 135 | 138 => 134 | n => n, fun | 3 => 2 | 4 => 3 | n => n⟩
theorem Tryz.lays160 : Go.Proofs.Lays.n160 Tryz.prog Tryz.lays160_ren := {
  mixed := by kernel_rfl
  f119 := Tryz.func111.trans (congrArg some zQ)
  f120 := Tryz.func109.trans (congrArg some zQ)
  f137 := Tryz.func70.trans (congrArg some zQ)
  f151 := Tryz.func99.trans (congrArg some zQ)
  f152 := Tryz.func108.trans (congrArg some zQ)
  f160 := Tryz.func51.trans (congrArg some zQ)
  f197 := Tryz.func98.trans (congrArg some zQ)
  f217 := Tryz.func94.trans (congrArg some zQ)
  f224 := Tryz.func66.trans (congrArg some zQ)
  f225 := Tryz.func104.trans (congrArg some zQ)
  f227 := Tryz.func77.trans (congrArg some zQ)
  f228 := Tryz.func97.trans (congrArg some zQ)
  f231 := Tryz.func75.trans (congrArg some zQ)
  f232 := Tryz.func76.trans (congrArg some zQ)
  f233 := Tryz.func78.trans (congrArg some zQ)
  f234 := Tryz.func79.trans (congrArg some zQ)
  f235 := Tryz.func80.trans (congrArg some zQ)
  f236 := Tryz.func81.trans (congrArg some zQ)
  f260 := Tryz.func107.trans (congrArg some zQ)
  f266 := Tryz.func106.trans (congrArg some zQ)
  f271 := Tryz.func100.trans (congrArg some zQ)
  t0 := Tryz.underlying0
  a0 := Tryz.isAgg0
  z0 := Tryz.sizeOf0
  v0 := Tryz.zeroValue0
  t3 := Tryz.underlying3
  a3 := Tryz.isAgg3
  z3 := Tryz.sizeOf3
  v3 := Tryz.zeroValue3
  t4 := Tryz.underlying4
  a4 := Tryz.isAgg4
  z4 := Tryz.sizeOf4
  v4 := Tryz.zeroValue4
  t5 := Tryz.underlying5
  a5 := Tryz.isAgg5
  z5 := Tryz.sizeOf5
  v5 := Tryz.zeroValue5
  t9 := Tryz.underlying9
  a9 := Tryz.isAgg9
  z9 := Tryz.sizeOf9
  v9 := Tryz.zeroValue9
  t21 := Tryz.underlying21
  a21 := Tryz.isAgg21
  z21 := Tryz.sizeOf21
  v21 := Tryz.zeroValue21
  t46 := Tryz.underlying107
  a46 := Tryz.isAgg107
  z46 := Tryz.sizeOf107
  v46 := Tryz.zeroValue107
  t105 := Tryz.underlying126
  a105 := Tryz.isAgg126
  z105 := Tryz.sizeOf126
  v105 := Tryz.zeroValue126
  t116 := Tryz.underlying114
  a116 := Tryz.isAgg114
  z116 := Tryz.sizeOf114
  t117 := Tryz.underlying115
  a117 := Tryz.isAgg115
  z117 := Tryz.sizeOf115
  v117 := Tryz.zeroValue115
  t119 := Tryz.underlying132
  a119 := Tryz.isAgg132
  z119 := Tryz.sizeOf132
  t124 := Tryz.underlying118
  a124 := Tryz.isAgg118
  z124 := Tryz.sizeOf118
  v124 := Tryz.zeroValue118
  t138 := Tryz.underlying134
  a138 := Tryz.isAgg134
  z138 := Tryz.sizeOf134
  v138 := Tryz.zeroValue134
  t139 := Tryz.underlying135
  a139 := Tryz.isAgg135
  z139 := Tryz.sizeOf135
  v139 := Tryz.zeroValue135
  g3 := by kernel_rfl
  g4 := by kernel_rfl }
def Tryz.lays137_ren : Go.Shelf.Ren := ⟨fun | 137 => 70 | 217 => 94 | 266 => 106 | n => n, fun | 9 => 9 | 5 => 5 | 3 => 3 | n => n, fun | n => n⟩
theorem Tryz.lays137 : Go.Proofs.Lays.n137 Tryz.prog Tryz.lays137_ren := {
  mixed := by kernel_rfl
  f137 := Tryz.func70.trans (congrArg some zQ)
  f217 := Tryz.func94.trans (congrArg some zQ)
  f266 := Tryz.func106.trans (congrArg some zQ)
  t3 := Tryz.underlying3
  a3 := Tryz.isAgg3
  z3 := Tryz.sizeOf3
  v3 := Tryz.zeroValue3
  t5 := Tryz.underlying5
  a5 := Tryz.isAgg5
  z5 := Tryz.sizeOf5
  v5 := Tryz.zeroValue5
  t9 := Tryz.underlying9
  a9 := Tryz.isAgg9
  z9 := Tryz.sizeOf9
  v9 := Tryz.zeroValue9 }
open Go.RowKit in
theorem Tryz.strings_IndexByte (s : ByteArray) (c : Int) (w : World) :
    Calls Tryz.prog 70 #[.string s, .int .u8 c] w fun e w' => e = .returned (.int .i64 (Lib.indexByte s.data.toList c.toNat.toUInt8)) ∧ w' = w := Any.strings_IndexByte Tryz.lays137 s c w
def Tryz.lays103_ren : Go.Shelf.Ren := ⟨fun | 103 => 61 | 210 => 86 | 206 => 101 | n => n, fun | 9 => 9 | 4 => 4 | 24 => 85 | 3 => 3 | n => n, fun | n => n⟩
theorem Tryz.lays103 : Go.Proofs.Lays.n103 Tryz.prog Tryz.lays103_ren := {
  mixed := by kernel_rfl
  f103 := Tryz.func61.trans (congrArg some zQ)
  f206 := Tryz.func101.trans (congrArg some zQ)
  f210 := Tryz.func86.trans (congrArg some zQ)
  t3 := Tryz.underlying3
  a3 := Tryz.isAgg3
  z3 := Tryz.sizeOf3
  v3 := Tryz.zeroValue3
  t4 := Tryz.underlying4
  a4 := Tryz.isAgg4
  z4 := Tryz.sizeOf4
  v4 := Tryz.zeroValue4
  t9 := Tryz.underlying9
  a9 := Tryz.isAgg9
  z9 := Tryz.sizeOf9
  v9 := Tryz.zeroValue9
  t24 := Tryz.underlying85
  a24 := Tryz.isAgg85
  z24 := Tryz.sizeOf85
  v24 := Tryz.zeroValue85 }
open Go.RowKit in
theorem Tryz.strings_CutPrefix (s p : ByteArray) (w : World) :
    Calls Tryz.prog 61 #[.string s, .string p] w fun e w' => e = .returned (.tuple #[.string ⟨(Lib.trimPrefix s.data.toList p.data.toList).toArray⟩, .bool (Lib.hasPrefix s.data.toList p.data.toList)]) ∧ w' = w := Any.strings_CutPrefix Tryz.lays103 s p w
def Tryz.lays217_ren : Go.Shelf.Ren := ⟨fun | 217 => 94 | 266 => 106 | n => n, fun | 9 => 9 | 5 => 5 | 3 => 3 | n => n, fun | n => n⟩
theorem Tryz.lays217 : Go.Proofs.Lays.n217 Tryz.prog Tryz.lays217_ren := {
  mixed := by kernel_rfl
  f217 := Tryz.func94.trans (congrArg some zQ)
  f266 := Tryz.func106.trans (congrArg some zQ)
  t3 := Tryz.underlying3
  a3 := Tryz.isAgg3
  z3 := Tryz.sizeOf3
  v3 := Tryz.zeroValue3
  t5 := Tryz.underlying5
  a5 := Tryz.isAgg5
  z5 := Tryz.sizeOf5
  v5 := Tryz.zeroValue5
  t9 := Tryz.underlying9
  a9 := Tryz.isAgg9
  z9 := Tryz.sizeOf9
  v9 := Tryz.zeroValue9 }
open Go.RowKit Go.Lib in
theorem Tryz.stringslite_IndexByte (s : ByteArray) (c : Int) (w : World) :
    Calls Tryz.prog 94 #[.string s, .int .u8 c] w fun e w' => e = .returned (.int .i64 (Lib.indexByte s.data.toList c.toNat.toUInt8)) ∧ w' = w := Any.stringslite_IndexByte Tryz.lays217 s c w
def Tryz.lays219_ren : Go.Shelf.Ren := ⟨fun | 219 => 93 | 217 => 94 | 225 => 104 | 224 => 66 | 267 => 105 | 266 => 106 | 314 => 110 | n => n, fun | 9 => 9 | 3 => 3 | 4 => 4 | 5 => 5 | 46 => 107 | 146 => 122 | 51 => 121 | n => n, fun | 1 => 1 | n => n⟩
theorem Tryz.lays219 : Go.Proofs.Lays.n219 Tryz.prog Tryz.lays219_ren := {
  mixed := by kernel_rfl
  f217 := Tryz.func94.trans (congrArg some zQ)
  f219 := Tryz.func93.trans (congrArg some zQ)
  f224 := Tryz.func66.trans (congrArg some zQ)
  f225 := Tryz.func104.trans (congrArg some zQ)
  f266 := Tryz.func106.trans (congrArg some zQ)
  f267 := Tryz.func105.trans (congrArg some zQ)
  f314 := Tryz.func110.trans (congrArg some zQ)
  t3 := Tryz.underlying3
  a3 := Tryz.isAgg3
  z3 := Tryz.sizeOf3
  v3 := Tryz.zeroValue3
  t4 := Tryz.underlying4
  a4 := Tryz.isAgg4
  z4 := Tryz.sizeOf4
  v4 := Tryz.zeroValue4
  t5 := Tryz.underlying5
  a5 := Tryz.isAgg5
  z5 := Tryz.sizeOf5
  v5 := Tryz.zeroValue5
  t9 := Tryz.underlying9
  a9 := Tryz.isAgg9
  z9 := Tryz.sizeOf9
  v9 := Tryz.zeroValue9
  t46 := Tryz.underlying107
  a46 := Tryz.isAgg107
  z46 := Tryz.sizeOf107
  v46 := Tryz.zeroValue107
  t51 := Tryz.underlying121
  a51 := Tryz.isAgg121
  z51 := Tryz.sizeOf121
  v51 := Tryz.zeroValue121
  t146 := Tryz.underlying122
  a146 := Tryz.isAgg122
  z146 := Tryz.sizeOf122
  v146 := Tryz.zeroValue122
  g1 := by kernel_rfl }
open Go.RowKit Go.Lib in
theorem Tryz.stringslite_Index (s sub : ByteArray) (m : Int) (w : World) (hs : s.size < 4294967281) (hm : w.cell? ⟨1, 0, none⟩ = some (.int .i64 m)) :
    Calls Tryz.prog 93 #[.string s, .string sub] w fun e w' => e = .returned (.int .i64 (Lib.index s.data.toList sub.data.toList)) ∧ w' = w := Any.stringslite_Index Tryz.lays219 s sub m w hs hm
def Tryz.lays143_ren : Go.Shelf.Ren := ⟨fun | 143 => 92 | 219 => 93 | 217 => 94 | 225 => 104 | 224 => 66 | 267 => 105 | 266 => 106 | 314 => 110 | n => n, fun | 9 => 9 | 3 => 3 | 4 => 4 | 5 => 5 | 46 => 107 | 146 => 122 | 51 => 121 | n => n, fun | 1 => 1 | n => n⟩
theorem Tryz.lays143 : Go.Proofs.Lays.n143 Tryz.prog Tryz.lays143_ren := {
  mixed := by kernel_rfl
  f143 := Tryz.func92.trans (congrArg some zQ)
  f217 := Tryz.func94.trans (congrArg some zQ)
  f219 := Tryz.func93.trans (congrArg some zQ)
  f224 := Tryz.func66.trans (congrArg some zQ)
  f225 := Tryz.func104.trans (congrArg some zQ)
  f266 := Tryz.func106.trans (congrArg some zQ)
  f267 := Tryz.func105.trans (congrArg some zQ)
  f314 := Tryz.func110.trans (congrArg some zQ)
  t3 := Tryz.underlying3
  a3 := Tryz.isAgg3
  z3 := Tryz.sizeOf3
  v3 := Tryz.zeroValue3
  t4 := Tryz.underlying4
  a4 := Tryz.isAgg4
  z4 := Tryz.sizeOf4
  v4 := Tryz.zeroValue4
  t5 := Tryz.underlying5
  a5 := Tryz.isAgg5
  z5 := Tryz.sizeOf5
  v5 := Tryz.zeroValue5
  t9 := Tryz.underlying9
  a9 := Tryz.isAgg9
  z9 := Tryz.sizeOf9
  v9 := Tryz.zeroValue9
  t46 := Tryz.underlying107
  a46 := Tryz.isAgg107
  z46 := Tryz.sizeOf107
  v46 := Tryz.zeroValue107
  t51 := Tryz.underlying121
  a51 := Tryz.isAgg121
  z51 := Tryz.sizeOf121
  v51 := Tryz.zeroValue121
  t146 := Tryz.underlying122
  a146 := Tryz.isAgg122
  z146 := Tryz.sizeOf122
  v146 := Tryz.zeroValue122
  g1 := by kernel_rfl }
open Go.RowKit Go.Lib in
theorem Tryz.strings_Index (s sub : ByteArray) (m : Int) (w : World) (hs : s.size < 4294967281) (hm : w.cell? ⟨1, 0, none⟩ = some (.int .i64 m)) :
    Calls Tryz.prog 92 #[.string s, .string sub] w fun e w' => e = .returned (.int .i64 (Lib.index s.data.toList sub.data.toList)) ∧ w' = w := Any.strings_Index Tryz.lays143 s sub m w hs hm
def Tryz.lays144_ren : Go.Shelf.Ren := ⟨fun | 144 => 74 | 143 => 92 | 219 => 93 | 217 => 94 | 225 => 104 | 224 => 66 | 267 => 105 | 266 => 106 | 314 => 110 | n => n, fun | 9 => 9 | 4 => 4 | 3 => 3 | 5 => 5 | 46 => 107 | 146 => 122 | 51 => 121 | n => n, fun | 1 => 1 | n => n⟩
theorem Tryz.lays144 : Go.Proofs.Lays.n144 Tryz.prog Tryz.lays144_ren := {
  mixed := by kernel_rfl
  f143 := Tryz.func92.trans (congrArg some zQ)
  f144 := Tryz.func74.trans (congrArg some zQ)
  f217 := Tryz.func94.trans (congrArg some zQ)
  f219 := Tryz.func93.trans (congrArg some zQ)
  f224 := Tryz.func66.trans (congrArg some zQ)
  f225 := Tryz.func104.trans (congrArg some zQ)
  f266 := Tryz.func106.trans (congrArg some zQ)
  f267 := Tryz.func105.trans (congrArg some zQ)
  f314 := Tryz.func110.trans (congrArg some zQ)
  t3 := Tryz.underlying3
  a3 := Tryz.isAgg3
  z3 := Tryz.sizeOf3
  v3 := Tryz.zeroValue3
  t4 := Tryz.underlying4
  a4 := Tryz.isAgg4
  z4 := Tryz.sizeOf4
  v4 := Tryz.zeroValue4
  t5 := Tryz.underlying5
  a5 := Tryz.isAgg5
  z5 := Tryz.sizeOf5
  v5 := Tryz.zeroValue5
  t9 := Tryz.underlying9
  a9 := Tryz.isAgg9
  z9 := Tryz.sizeOf9
  v9 := Tryz.zeroValue9
  t46 := Tryz.underlying107
  a46 := Tryz.isAgg107
  z46 := Tryz.sizeOf107
  v46 := Tryz.zeroValue107
  t51 := Tryz.underlying121
  a51 := Tryz.isAgg121
  z51 := Tryz.sizeOf121
  v51 := Tryz.zeroValue121
  t146 := Tryz.underlying122
  a146 := Tryz.isAgg122
  z146 := Tryz.sizeOf122
  v146 := Tryz.zeroValue122
  g1 := by kernel_rfl }
open Go.RowKit Go.Lib in
theorem Tryz.strings_Contains_one (s : ByteArray) (c : UInt8) (w : World) :
    Calls Tryz.prog 74 #[.string s, .string ⟨#[c]⟩] w fun e w' => e = .returned (.bool (decide (0 ≤ Lib.indexByte s.data.toList c))) ∧ w' = w := Any.strings_Contains_one Tryz.lays144 s c w
open Go.RowKit Go.Lib in
theorem Tryz.strings_Contains (s sub : ByteArray) (m : Int) (w : World) (hs : s.size < 4294967281) (hm : w.cell? ⟨1, 0, none⟩ = some (.int .i64 m)) :
    Calls Tryz.prog 74 #[.string s, .string sub] w fun e w' => e = .returned (.bool (Lib.contains s.data.toList sub.data.toList)) ∧ w' = w := Any.strings_Contains Tryz.lays144 s sub m w hs hm
def Tryz.lays220_ren : Go.Shelf.Ren := ⟨fun | 220 => 69 | 219 => 93 | 217 => 94 | 225 => 104 | 224 => 66 | 267 => 105 | 266 => 106 | 314 => 110 | n => n, fun | 9 => 9 | 4 => 4 | 3 => 3 | 5 => 5 | 46 => 107 | 146 => 122 | 51 => 121 | n => n, fun | 1 => 1 | n => n⟩
theorem Tryz.lays220 : Go.Proofs.Lays.n220 Tryz.prog Tryz.lays220_ren := {
  mixed := by kernel_rfl
  f217 := Tryz.func94.trans (congrArg some zQ)
  f219 := Tryz.func93.trans (congrArg some zQ)
  f220 := Tryz.func69.trans (congrArg some zQ)
  f224 := Tryz.func66.trans (congrArg some zQ)
  f225 := Tryz.func104.trans (congrArg some zQ)
  f266 := Tryz.func106.trans (congrArg some zQ)
  f267 := Tryz.func105.trans (congrArg some zQ)
  f314 := Tryz.func110.trans (congrArg some zQ)
  t3 := Tryz.underlying3
  a3 := Tryz.isAgg3
  z3 := Tryz.sizeOf3
  v3 := Tryz.zeroValue3
  t4 := Tryz.underlying4
  a4 := Tryz.isAgg4
  z4 := Tryz.sizeOf4
  v4 := Tryz.zeroValue4
  t5 := Tryz.underlying5
  a5 := Tryz.isAgg5
  z5 := Tryz.sizeOf5
  v5 := Tryz.zeroValue5
  t9 := Tryz.underlying9
  a9 := Tryz.isAgg9
  z9 := Tryz.sizeOf9
  v9 := Tryz.zeroValue9
  t46 := Tryz.underlying107
  a46 := Tryz.isAgg107
  z46 := Tryz.sizeOf107
  v46 := Tryz.zeroValue107
  t51 := Tryz.underlying121
  a51 := Tryz.isAgg121
  z51 := Tryz.sizeOf121
  v51 := Tryz.zeroValue121
  t146 := Tryz.underlying122
  a146 := Tryz.isAgg122
  z146 := Tryz.sizeOf122
  v146 := Tryz.zeroValue122
  g1 := by kernel_rfl }
open Go.RowKit Go.Lib in
theorem Tryz.stringslite_Cut (s sep : ByteArray) (m : Int) (w : World) (hs : s.size < 4294967281) (hm : w.cell? ⟨1, 0, none⟩ = some (.int .i64 m)) :
    Calls Tryz.prog 69 #[.string s, .string sep] w fun e w' => e = .returned (.tuple #[.string ⟨(Lib.cut s.data.toList sep.data.toList).1.toArray⟩, .string ⟨(Lib.cut s.data.toList sep.data.toList).2.1.toArray⟩, .bool (Lib.cut s.data.toList sep.data.toList).2.2]) ∧ ∃ n, w' = w.drewN n := Any.stringslite_Cut Tryz.lays220 s sep m w hs hm
def Tryz.lays145_ren : Go.Shelf.Ren := ⟨fun | 145 => 48 | 220 => 69 | 219 => 93 | 217 => 94 | 225 => 104 | 224 => 66 | 267 => 105 | 266 => 106 | 314 => 110 | n => n, fun | 9 => 9 | 4 => 4 | 59 => 79 | 3 => 3 | 5 => 5 | 46 => 107 | 146 => 122 | 51 => 121 | n => n, fun | 1 => 1 | n => n⟩
theorem Tryz.lays145 : Go.Proofs.Lays.n145 Tryz.prog Tryz.lays145_ren := {
  mixed := by kernel_rfl
  f145 := Tryz.func48.trans (congrArg some zQ)
  f217 := Tryz.func94.trans (congrArg some zQ)
  f219 := Tryz.func93.trans (congrArg some zQ)
  f220 := Tryz.func69.trans (congrArg some zQ)
  f224 := Tryz.func66.trans (congrArg some zQ)
  f225 := Tryz.func104.trans (congrArg some zQ)
  f266 := Tryz.func106.trans (congrArg some zQ)
  f267 := Tryz.func105.trans (congrArg some zQ)
  f314 := Tryz.func110.trans (congrArg some zQ)
  t3 := Tryz.underlying3
  a3 := Tryz.isAgg3
  z3 := Tryz.sizeOf3
  v3 := Tryz.zeroValue3
  t4 := Tryz.underlying4
  a4 := Tryz.isAgg4
  z4 := Tryz.sizeOf4
  v4 := Tryz.zeroValue4
  t5 := Tryz.underlying5
  a5 := Tryz.isAgg5
  z5 := Tryz.sizeOf5
  v5 := Tryz.zeroValue5
  t9 := Tryz.underlying9
  a9 := Tryz.isAgg9
  z9 := Tryz.sizeOf9
  v9 := Tryz.zeroValue9
  t46 := Tryz.underlying107
  a46 := Tryz.isAgg107
  z46 := Tryz.sizeOf107
  v46 := Tryz.zeroValue107
  t51 := Tryz.underlying121
  a51 := Tryz.isAgg121
  z51 := Tryz.sizeOf121
  v51 := Tryz.zeroValue121
  t59 := Tryz.underlying79
  a59 := Tryz.isAgg79
  z59 := Tryz.sizeOf79
  v59 := Tryz.zeroValue79
  t146 := Tryz.underlying122
  a146 := Tryz.isAgg122
  z146 := Tryz.sizeOf122
  v146 := Tryz.zeroValue122
  g1 := by kernel_rfl }
open Go.RowKit Go.Lib in
theorem Tryz.strings_Cut (s sep : ByteArray) (m : Int) (w : World) (hs : s.size < 4294967281) (hm : w.cell? ⟨1, 0, none⟩ = some (.int .i64 m)) :
    Calls Tryz.prog 48 #[.string s, .string sep] w fun e w' => e = .returned (.tuple #[.string ⟨(Lib.cut s.data.toList sep.data.toList).1.toArray⟩, .string ⟨(Lib.cut s.data.toList sep.data.toList).2.1.toArray⟩, .bool (Lib.cut s.data.toList sep.data.toList).2.2]) ∧ ∃ n, w' = w.drewN n := Any.strings_Cut Tryz.lays145 s sep m w hs hm
def Tryz.lays138_ren : Go.Shelf.Ren := ⟨fun | 138 => 91 | 195 => 102 | 218 => 103 | 143 => 92 | 219 => 93 | 217 => 94 | 225 => 104 | 224 => 66 | 267 => 105 | 266 => 106 | 314 => 110 | n => n, fun | 9 => 9 | 3 => 3 | 4 => 4 | 5 => 5 | 0 => 0 | 46 => 107 | 146 => 122 | 51 => 121 | n => n, fun | 1 => 1 | n => n⟩
theorem Tryz.lays138 : Go.Proofs.Lays.n138 Tryz.prog Tryz.lays138_ren := {
  mixed := by kernel_rfl
  f138 := Tryz.func91.trans (congrArg some zQ)
  f143 := Tryz.func92.trans (congrArg some zQ)
  f195 := Tryz.func102.trans (congrArg some zQ)
  f217 := Tryz.func94.trans (congrArg some zQ)
  f218 := Tryz.func103.trans (congrArg some zQ)
  f219 := Tryz.func93.trans (congrArg some zQ)
  f224 := Tryz.func66.trans (congrArg some zQ)
  f225 := Tryz.func104.trans (congrArg some zQ)
  f266 := Tryz.func106.trans (congrArg some zQ)
  f267 := Tryz.func105.trans (congrArg some zQ)
  f314 := Tryz.func110.trans (congrArg some zQ)
  t0 := Tryz.underlying0
  a0 := Tryz.isAgg0
  z0 := Tryz.sizeOf0
  v0 := Tryz.zeroValue0
  t3 := Tryz.underlying3
  a3 := Tryz.isAgg3
  z3 := Tryz.sizeOf3
  v3 := Tryz.zeroValue3
  t4 := Tryz.underlying4
  a4 := Tryz.isAgg4
  z4 := Tryz.sizeOf4
  v4 := Tryz.zeroValue4
  t5 := Tryz.underlying5
  a5 := Tryz.isAgg5
  z5 := Tryz.sizeOf5
  v5 := Tryz.zeroValue5
  t9 := Tryz.underlying9
  a9 := Tryz.isAgg9
  z9 := Tryz.sizeOf9
  v9 := Tryz.zeroValue9
  t46 := Tryz.underlying107
  a46 := Tryz.isAgg107
  z46 := Tryz.sizeOf107
  v46 := Tryz.zeroValue107
  t51 := Tryz.underlying121
  a51 := Tryz.isAgg121
  z51 := Tryz.sizeOf121
  v51 := Tryz.zeroValue121
  t146 := Tryz.underlying122
  a146 := Tryz.isAgg122
  z146 := Tryz.sizeOf122
  v146 := Tryz.zeroValue122
  g1 := by kernel_rfl }
open Go.RowKit Go.Lib in
theorem Tryz.strings_Count (s sub : ByteArray) (m : Int) (w : World) (hs : s.size < 4294967281) (hm : w.cell? ⟨1, 0, none⟩ = some (.int .i64 m)) (h2 : 2 ≤ sub.size) :
    Calls Tryz.prog 91 #[.string s, .string sub] w fun e w' => e = .returned (.int .i64 (Lib.countB s sub)) ∧ w' = w := Any.strings_Count Tryz.lays138 s sub m w hs hm h2
def Tryz.laysM143_ren : Go.Shelf.Ren := ⟨fun | 143 => 92 | 219 => 93 | 217 => 94 | 225 => 104 | 224 => 66 | 267 => 105 | 266 => 106 | 314 => 110 | n => n, fun | 9 => 9 | 3 => 3 | 4 => 4 | 5 => 5 | 46 => 107 | 146 => 122 | 51 => 121 | n => n, fun | 1 => 1 | n => n⟩
theorem Tryz.laysM143 : Go.Proofs.LaysM.n143 Tryz.prog Tryz.laysM143_ren := {
  mixed := by kernel_rfl
  f143 := Tryz.func92.trans (congrArg some zQ)
  f217 := Tryz.func94.trans (congrArg some zQ)
  f219 := Tryz.func93.trans (congrArg some zQ)
  f224 := Tryz.func66.trans (congrArg some zQ)
  f225 := Tryz.func104.trans (congrArg some zQ)
  f266 := Tryz.func106.trans (congrArg some zQ)
  f267 := Tryz.func105.trans (congrArg some zQ)
  f314 := Tryz.func110.trans (congrArg some zQ)
  t3 := Tryz.underlying3
  a3 := Tryz.isAgg3
  z3 := Tryz.sizeOf3
  v3 := Tryz.zeroValue3
  t4 := Tryz.underlying4
  a4 := Tryz.isAgg4
  z4 := Tryz.sizeOf4
  v4 := Tryz.zeroValue4
  t5 := Tryz.underlying5
  a5 := Tryz.isAgg5
  z5 := Tryz.sizeOf5
  v5 := Tryz.zeroValue5
  t9 := Tryz.underlying9
  a9 := Tryz.isAgg9
  z9 := Tryz.sizeOf9
  v9 := Tryz.zeroValue9
  t46 := Tryz.underlying107
  a46 := Tryz.isAgg107
  z46 := Tryz.sizeOf107
  v46 := Tryz.zeroValue107
  t51 := Tryz.underlying121
  a51 := Tryz.isAgg121
  z51 := Tryz.sizeOf121
  v51 := Tryz.zeroValue121
  t146 := Tryz.underlying122
  a146 := Tryz.isAgg122
  z146 := Tryz.sizeOf122
  v146 := Tryz.zeroValue122
  g1 := by kernel_rfl
  i3 := by kernel_rfl
  i4 := by kernel_rfl
  i5 := by kernel_rfl
  i9 := by kernel_rfl
  i46 := by kernel_rfl
  i51 := by kernel_rfl
  i146 := by kernel_rfl
  m1 := by kernel_rfl
  s1_3 := fun w h => Go.Proofs.cell_of_shapedOpen_int (zero := #[.int .i64 0]) (t := 3) h (zd zQ) zQ rfl zQ zQ Tryz.underlying3 }
def Tryz.lays99_ren : Go.Shelf.Ren := ⟨fun | 99 => 95 | 206 => 101 | n => n, fun | 9 => 9 | 4 => 4 | 3 => 3 | n => n, fun | n => n⟩
theorem Tryz.lays99 : Go.Proofs.Lays.n99 Tryz.prog Tryz.lays99_ren := {
  mixed := by kernel_rfl
  f99 := Tryz.func95.trans (congrArg some zQ)
  f206 := Tryz.func101.trans (congrArg some zQ)
  t3 := Tryz.underlying3
  a3 := Tryz.isAgg3
  z3 := Tryz.sizeOf3
  v3 := Tryz.zeroValue3
  t4 := Tryz.underlying4
  a4 := Tryz.isAgg4
  z4 := Tryz.sizeOf4
  v4 := Tryz.zeroValue4
  t9 := Tryz.underlying9
  a9 := Tryz.isAgg9
  z9 := Tryz.sizeOf9
  v9 := Tryz.zeroValue9 }
open Go.RowKit Go.Lib in
theorem Tryz.strings_HasPrefix (s p : ByteArray) (w : World) :
    Calls Tryz.prog 95 #[.string s, .string p] w fun e w' => e = .returned (.bool (Lib.hasPrefix s.data.toList p.data.toList)) ∧ w' = w := Any.strings_HasPrefix Tryz.lays99 s p w
def Tryz.lays207_ren : Go.Shelf.Ren := ⟨fun | 207 => 87 | n => n, fun | 9 => 9 | 4 => 4 | 3 => 3 | n => n, fun | n => n⟩
theorem Tryz.lays207 : Go.Proofs.Lays.n207 Tryz.prog Tryz.lays207_ren := {
  mixed := by kernel_rfl
  f207 := Tryz.func87.trans (congrArg some zQ)
  t3 := Tryz.underlying3
  a3 := Tryz.isAgg3
  z3 := Tryz.sizeOf3
  v3 := Tryz.zeroValue3
  t4 := Tryz.underlying4
  a4 := Tryz.isAgg4
  z4 := Tryz.sizeOf4
  v4 := Tryz.zeroValue4
  t9 := Tryz.underlying9
  a9 := Tryz.isAgg9
  z9 := Tryz.sizeOf9
  v9 := Tryz.zeroValue9 }
open Go.RowKit Go.Lib in
theorem Tryz.stringslite_HasSuffix (s p : ByteArray) (w : World) (hs : s.size ≤ 9223372036854775807) :
    Calls Tryz.prog 87 #[.string s, .string p] w fun e w' => e = .returned (.bool (Lib.hasSuffix s.data.toList p.data.toList)) ∧ w' = w := Any.stringslite_HasSuffix Tryz.lays207 s p w hs
def Tryz.lays100_ren : Go.Shelf.Ren := ⟨fun | 100 => 62 | 207 => 87 | n => n, fun | 9 => 9 | 4 => 4 | 3 => 3 | n => n, fun | n => n⟩
theorem Tryz.lays100 : Go.Proofs.Lays.n100 Tryz.prog Tryz.lays100_ren := {
  mixed := by kernel_rfl
  f100 := Tryz.func62.trans (congrArg some zQ)
  f207 := Tryz.func87.trans (congrArg some zQ)
  t3 := Tryz.underlying3
  a3 := Tryz.isAgg3
  z3 := Tryz.sizeOf3
  v3 := Tryz.zeroValue3
  t4 := Tryz.underlying4
  a4 := Tryz.isAgg4
  z4 := Tryz.sizeOf4
  v4 := Tryz.zeroValue4
  t9 := Tryz.underlying9
  a9 := Tryz.isAgg9
  z9 := Tryz.sizeOf9
  v9 := Tryz.zeroValue9 }
open Go.RowKit Go.Lib in
theorem Tryz.strings_HasSuffix (s p : ByteArray) (w : World) (hs : s.size ≤ 9223372036854775807) :
    Calls Tryz.prog 62 #[.string s, .string p] w fun e w' => e = .returned (.bool (Lib.hasSuffix s.data.toList p.data.toList)) ∧ w' = w := Any.strings_HasSuffix Tryz.lays100 s p w hs
def Tryz.lays221_ren : Go.Shelf.Ren := ⟨fun | 221 => 68 | 268 => 90 | 138 => 91 | 143 => 92 | 195 => 102 | 197 => 98 | 218 => 103 | 219 => 93 | 260 => 107 | 217 => 94 | 225 => 104 | 224 => 66 | 267 => 105 | 266 => 106 | 314 => 110 | n => n, fun | 9 => 9 | 3 => 3 | 31 => 75 | 4 => 4 | 0 => 0 | 105 => 126 | 21 => 21 | 5 => 5 | 46 => 107 | 119 => 132 | 139 => 135 | 138 => 134 | 146 => 122 | 51 => 121 | n => n, fun | 1 => 1 | 3 => 2 | 4 => 3 | n => n⟩
theorem Tryz.lays221 : Go.Proofs.Lays.n221 Tryz.prog Tryz.lays221_ren := {
  mixed := by kernel_rfl
  f138 := Tryz.func91.trans (congrArg some zQ)
  f143 := Tryz.func92.trans (congrArg some zQ)
  f195 := Tryz.func102.trans (congrArg some zQ)
  f197 := Tryz.func98.trans (congrArg some zQ)
  f217 := Tryz.func94.trans (congrArg some zQ)
  f218 := Tryz.func103.trans (congrArg some zQ)
  f219 := Tryz.func93.trans (congrArg some zQ)
  f221 := Tryz.func68.trans (congrArg some zQ)
  f224 := Tryz.func66.trans (congrArg some zQ)
  f225 := Tryz.func104.trans (congrArg some zQ)
  f260 := Tryz.func107.trans (congrArg some zQ)
  f266 := Tryz.func106.trans (congrArg some zQ)
  f267 := Tryz.func105.trans (congrArg some zQ)
  f268 := Tryz.func90.trans (congrArg some zQ)
  f314 := Tryz.func110.trans (congrArg some zQ)
  t0 := Tryz.underlying0
  a0 := Tryz.isAgg0
  z0 := Tryz.sizeOf0
  v0 := Tryz.zeroValue0
  t3 := Tryz.underlying3
  a3 := Tryz.isAgg3
  z3 := Tryz.sizeOf3
  v3 := Tryz.zeroValue3
  t4 := Tryz.underlying4
  a4 := Tryz.isAgg4
  z4 := Tryz.sizeOf4
  v4 := Tryz.zeroValue4
  t5 := Tryz.underlying5
  a5 := Tryz.isAgg5
  z5 := Tryz.sizeOf5
  v5 := Tryz.zeroValue5
  t9 := Tryz.underlying9
  a9 := Tryz.isAgg9
  z9 := Tryz.sizeOf9
  v9 := Tryz.zeroValue9
  t21 := Tryz.underlying21
  a21 := Tryz.isAgg21
  z21 := Tryz.sizeOf21
  v21 := Tryz.zeroValue21
  t31 := Tryz.underlying75
  a31 := Tryz.isAgg75
  z31 := Tryz.sizeOf75
  v31 := Tryz.zeroValue75
  t46 := Tryz.underlying107
  a46 := Tryz.isAgg107
  z46 := Tryz.sizeOf107
  v46 := Tryz.zeroValue107
  t51 := Tryz.underlying121
  a51 := Tryz.isAgg121
  z51 := Tryz.sizeOf121
  v51 := Tryz.zeroValue121
  t105 := Tryz.underlying126
  a105 := Tryz.isAgg126
  z105 := Tryz.sizeOf126
  v105 := Tryz.zeroValue126
  t119 := Tryz.underlying132
  a119 := Tryz.isAgg132
  z119 := Tryz.sizeOf132
  t138 := Tryz.underlying134
  a138 := Tryz.isAgg134
  z138 := Tryz.sizeOf134
  v138 := Tryz.zeroValue134
  t139 := Tryz.underlying135
  a139 := Tryz.isAgg135
  z139 := Tryz.sizeOf135
  v139 := Tryz.zeroValue135
  t146 := Tryz.underlying122
  a146 := Tryz.isAgg122
  z146 := Tryz.sizeOf122
  v146 := Tryz.zeroValue122
  g1 := by kernel_rfl
  g3 := by kernel_rfl
  g4 := by kernel_rfl }
open Go.RowKit Go.Lib in
theorem Tryz.strings_genSplit (s sep : ByteArray) (sv : Nat) (n : Int) (N : Nat) (m : Int) (w : World) (hs : s.size < 4294967281) (hm : w.cell? ⟨1, 0, none⟩ = some (.int .i64 m)) (h1 : 1 ≤ sep.size) (hsv : sv ≤ sep.size) (hn0 : n ≠ 0) (hn63 : n ≤ 9223372036854775807) (hN : (N : Int) = min (if n < 0 then (Lib.countB s sep : Int) + 1 else n) ((s.size : Int) + 1)) :
    Calls Tryz.prog 68 #[.string s, .string sep, .int .i64 sv, .int .i64 n] w fun e w' =>
      e = .returned (.slice (some ⟨w.heap.size, 0, none⟩) (Lib.splitB sep sv (N - 1) s).length N) ∧ w' = w.alloc (.cells (Lib.cellsOf (Lib.splitB sep sv (N - 1) s) N) 9) := Any.strings_genSplit Tryz.lays221 zQ s sep sv n N m w hs hm h1 hsv hn0 hn63 hN
def Tryz.lays146_ren : Go.Shelf.Ren := ⟨fun | 146 => 47 | 221 => 68 | 268 => 90 | 138 => 91 | 143 => 92 | 195 => 102 | 197 => 98 | 218 => 103 | 219 => 93 | 260 => 107 | 217 => 94 | 225 => 104 | 224 => 66 | 267 => 105 | 266 => 106 | 314 => 110 | n => n, fun | 9 => 9 | 31 => 75 | 3 => 3 | 4 => 4 | 0 => 0 | 105 => 126 | 21 => 21 | 5 => 5 | 46 => 107 | 119 => 132 | 139 => 135 | 138 => 134 | 146 => 122 | 51 => 121 | n => n, fun | 1 => 1 | 3 => 2 | 4 => 3 | n => n⟩
theorem Tryz.lays146 : Go.Proofs.Lays.n146 Tryz.prog Tryz.lays146_ren := {
  mixed := by kernel_rfl
  f138 := Tryz.func91.trans (congrArg some zQ)
  f143 := Tryz.func92.trans (congrArg some zQ)
  f146 := Tryz.func47.trans (congrArg some zQ)
  f195 := Tryz.func102.trans (congrArg some zQ)
  f197 := Tryz.func98.trans (congrArg some zQ)
  f217 := Tryz.func94.trans (congrArg some zQ)
  f218 := Tryz.func103.trans (congrArg some zQ)
  f219 := Tryz.func93.trans (congrArg some zQ)
  f221 := Tryz.func68.trans (congrArg some zQ)
  f224 := Tryz.func66.trans (congrArg some zQ)
  f225 := Tryz.func104.trans (congrArg some zQ)
  f260 := Tryz.func107.trans (congrArg some zQ)
  f266 := Tryz.func106.trans (congrArg some zQ)
  f267 := Tryz.func105.trans (congrArg some zQ)
  f268 := Tryz.func90.trans (congrArg some zQ)
  f314 := Tryz.func110.trans (congrArg some zQ)
  t0 := Tryz.underlying0
  a0 := Tryz.isAgg0
  z0 := Tryz.sizeOf0
  v0 := Tryz.zeroValue0
  t3 := Tryz.underlying3
  a3 := Tryz.isAgg3
  z3 := Tryz.sizeOf3
  v3 := Tryz.zeroValue3
  t4 := Tryz.underlying4
  a4 := Tryz.isAgg4
  z4 := Tryz.sizeOf4
  v4 := Tryz.zeroValue4
  t5 := Tryz.underlying5
  a5 := Tryz.isAgg5
  z5 := Tryz.sizeOf5
  v5 := Tryz.zeroValue5
  t9 := Tryz.underlying9
  a9 := Tryz.isAgg9
  z9 := Tryz.sizeOf9
  v9 := Tryz.zeroValue9
  t21 := Tryz.underlying21
  a21 := Tryz.isAgg21
  z21 := Tryz.sizeOf21
  v21 := Tryz.zeroValue21
  t31 := Tryz.underlying75
  a31 := Tryz.isAgg75
  z31 := Tryz.sizeOf75
  v31 := Tryz.zeroValue75
  t46 := Tryz.underlying107
  a46 := Tryz.isAgg107
  z46 := Tryz.sizeOf107
  v46 := Tryz.zeroValue107
  t51 := Tryz.underlying121
  a51 := Tryz.isAgg121
  z51 := Tryz.sizeOf121
  v51 := Tryz.zeroValue121
  t105 := Tryz.underlying126
  a105 := Tryz.isAgg126
  z105 := Tryz.sizeOf126
  v105 := Tryz.zeroValue126
  t119 := Tryz.underlying132
  a119 := Tryz.isAgg132
  z119 := Tryz.sizeOf132
  t138 := Tryz.underlying134
  a138 := Tryz.isAgg134
  z138 := Tryz.sizeOf134
  v138 := Tryz.zeroValue134
  t139 := Tryz.underlying135
  a139 := Tryz.isAgg135
  z139 := Tryz.sizeOf135
  v139 := Tryz.zeroValue135
  t146 := Tryz.underlying122
  a146 := Tryz.isAgg122
  z146 := Tryz.sizeOf122
  v146 := Tryz.zeroValue122
  g1 := by kernel_rfl
  g3 := by kernel_rfl
  g4 := by kernel_rfl }
open Go.RowKit Go.Lib in
theorem Tryz.strings_Split (s sep : ByteArray) (m : Int) (w : World) (hs : s.size < 4294967281) (hm : w.cell? ⟨1, 0, none⟩ = some (.int .i64 m)) (h1 : 1 ≤ sep.size) :
    Calls Tryz.prog 47 #[.string s, .string sep] w fun e w' =>
      e = .returned (.slice (some ⟨w.heap.size, 0, none⟩) (Lib.countB s sep + 1) (Lib.countB s sep + 1)) ∧ w' = w.alloc (.cells ((Lib.splitB sep 0 (Lib.countB s sep) s).map Value.string).toArray 9) := Any.strings_Split Tryz.lays146 zQ s sep m w hs hm h1
def Tryz.lays260_ren : Go.Shelf.Ren := ⟨fun | 260 => 107 | n => n, fun | 9 => 9 | 21 => 21 | 3 => 3 | 4 => 4 | 5 => 5 | 119 => 132 | 0 => 0 | 46 => 107 | 139 => 135 | 138 => 134 | n => n, fun | 3 => 2 | 4 => 3 | n => n⟩
theorem Tryz.lays260 : Go.Proofs.Lays.n260 Tryz.prog Tryz.lays260_ren := {
  mixed := by kernel_rfl
  f260 := Tryz.func107.trans (congrArg some zQ)
  t0 := Tryz.underlying0
  a0 := Tryz.isAgg0
  z0 := Tryz.sizeOf0
  v0 := Tryz.zeroValue0
  t3 := Tryz.underlying3
  a3 := Tryz.isAgg3
  z3 := Tryz.sizeOf3
  v3 := Tryz.zeroValue3
  t4 := Tryz.underlying4
  a4 := Tryz.isAgg4
  z4 := Tryz.sizeOf4
  v4 := Tryz.zeroValue4
  t5 := Tryz.underlying5
  a5 := Tryz.isAgg5
  z5 := Tryz.sizeOf5
  v5 := Tryz.zeroValue5
  t9 := Tryz.underlying9
  a9 := Tryz.isAgg9
  z9 := Tryz.sizeOf9
  v9 := Tryz.zeroValue9
  t21 := Tryz.underlying21
  a21 := Tryz.isAgg21
  z21 := Tryz.sizeOf21
  v21 := Tryz.zeroValue21
  t46 := Tryz.underlying107
  a46 := Tryz.isAgg107
  z46 := Tryz.sizeOf107
  v46 := Tryz.zeroValue107
  t119 := Tryz.underlying132
  a119 := Tryz.isAgg132
  z119 := Tryz.sizeOf132
  t138 := Tryz.underlying134
  a138 := Tryz.isAgg134
  z138 := Tryz.sizeOf134
  v138 := Tryz.zeroValue134
  t139 := Tryz.underlying135
  a139 := Tryz.isAgg135
  z139 := Tryz.sizeOf135
  v139 := Tryz.zeroValue135
  g3 := by kernel_rfl
  g4 := by kernel_rfl }
open Go.RowKit Go.Lib in
theorem Tryz.utf8_decodeRuneInStringSlow (s : ByteArray) (w : World) (hT : Lib.Utf8Tabs 2 3 w) :
    Calls Tryz.prog 107 #[.string s] w fun e w' => e = .returned (.tuple #[.int .i32 (Lib.decodeGo s).1, .int .i64 (Lib.decodeGo s).2]) ∧ Below w.heap.size w w' := Any.utf8_decodeRuneInStringSlow Tryz.lays260 s w hT
def Tryz.lays185_ren : Go.Shelf.Ren := ⟨fun | 185 => 46 | 187 => 63 | 115 => 64 | 253 => 65 | 224 => 66 | 254 => 67 | 255 => 88 | 291 => 89 | n => n, fun | 37 => 29 | 3 => 3 | 4 => 4 | 0 => 0 | 5 => 5 | 46 => 107 | 9 => 9 | 146 => 122 | 51 => 121 | n => n, fun | 1 => 1 | n => n⟩
theorem Tryz.lays185 : Go.Proofs.Lays.n185 Tryz.prog Tryz.lays185_ren := {
  mixed := by kernel_rfl
  f115 := Tryz.func64.trans (congrArg some zQ)
  f185 := Tryz.func46.trans (congrArg some zQ)
  f187 := Tryz.func63.trans (congrArg some zQ)
  f224 := Tryz.func66.trans (congrArg some zQ)
  f253 := Tryz.func65.trans (congrArg some zQ)
  f254 := Tryz.func67.trans (congrArg some zQ)
  f255 := Tryz.func88.trans (congrArg some zQ)
  f291 := Tryz.func89.trans (congrArg some zQ)
  t0 := Tryz.underlying0
  a0 := Tryz.isAgg0
  z0 := Tryz.sizeOf0
  v0 := Tryz.zeroValue0
  t3 := Tryz.underlying3
  a3 := Tryz.isAgg3
  z3 := Tryz.sizeOf3
  v3 := Tryz.zeroValue3
  t4 := Tryz.underlying4
  a4 := Tryz.isAgg4
  z4 := Tryz.sizeOf4
  v4 := Tryz.zeroValue4
  t5 := Tryz.underlying5
  a5 := Tryz.isAgg5
  z5 := Tryz.sizeOf5
  v5 := Tryz.zeroValue5
  t9 := Tryz.underlying9
  a9 := Tryz.isAgg9
  z9 := Tryz.sizeOf9
  v9 := Tryz.zeroValue9
  t37 := Tryz.underlying29
  a37 := Tryz.isAgg29
  z37 := Tryz.sizeOf29
  v37 := Tryz.zeroValue29
  t46 := Tryz.underlying107
  a46 := Tryz.isAgg107
  z46 := Tryz.sizeOf107
  v46 := Tryz.zeroValue107
  t51 := Tryz.underlying121
  a51 := Tryz.isAgg121
  z51 := Tryz.sizeOf121
  v51 := Tryz.zeroValue121
  t146 := Tryz.underlying122
  a146 := Tryz.isAgg122
  z146 := Tryz.sizeOf122
  v146 := Tryz.zeroValue122
  g1 := by kernel_rfl }
open Go.RowKit Go.Lib in
theorem Tryz.bytes_Index_longer (p q : Option Addr) (n c m d : Nat) (w : World) (h2 : 2 ≤ m) (hnm : n < m) (hm : m ≤ 9223372036854775807) :
    Calls Tryz.prog 46 #[.slice p n c, .slice q m d] w fun e w' => e = .returned (.int .i64 (-1)) ∧ w' = w := Any.bytes_Index_longer Tryz.lays185 p q n c m d w h2 hnm hm
def Tryz.lays187_ren : Go.Shelf.Ren := ⟨fun | 187 => 63 | 255 => 88 | n => n, fun | 37 => 29 | 5 => 5 | 3 => 3 | n => n, fun | n => n⟩
theorem Tryz.lays187 : Go.Proofs.Lays.n187 Tryz.prog Tryz.lays187_ren := {
  mixed := by kernel_rfl
  f187 := Tryz.func63.trans (congrArg some zQ)
  f255 := Tryz.func88.trans (congrArg some zQ)
  t3 := Tryz.underlying3
  a3 := Tryz.isAgg3
  z3 := Tryz.sizeOf3
  v3 := Tryz.zeroValue3
  t5 := Tryz.underlying5
  a5 := Tryz.isAgg5
  z5 := Tryz.sizeOf5
  v5 := Tryz.zeroValue5
  t37 := Tryz.underlying29
  a37 := Tryz.isAgg29
  z37 := Tryz.sizeOf29
  v37 := Tryz.zeroValue29 }
open Go.Proofs Go.RowKit Go.Lib in
theorem Tryz.bytes_Index_at (a1 a2 : Addr) (n c1 k c2 : Nat) (xs ys : List Int) (m : Int) (w : World) (hx : xs.length = n) (hy : ys.length = k) (hr1 : ∀ x ∈ xs, 0 ≤ x ∧ x < 256) (hr2 : ∀ y ∈ ys, 0 ≤ y ∧ y < 256) (hc1 : ∀ i, i < n → w.cell? (a1.add i) = some (.int .u8 (xs.getD i 0))) (hc2 : ∀ i, i < k → w.cell? (a2.add i) = some (.int .u8 (ys.getD i 0))) (hcap : n ≤ c1) (hs : n < 4294967281) (hk : k ≤ 9223372036854775807) (hm : w.cell? ⟨1, 0, none⟩ = some (.int .i64 m)) :
    Calls Tryz.prog 46 #[.slice (some a1) n c1, .slice (some a2) k c2] w fun e w' => e = .returned (.int .i64 (Lib.index (Lib.bytesOf xs) (Lib.bytesOf ys))) ∧ ∃ q, w' = w.drewN q := Any.bytes_Index_at Tryz.lays185 a1 a2 n c1 k c2 xs ys m w hx hy hr1 hr2 hc1 hc2 hcap hs hk hm
theorem Tryz.bytes_IndexByte (b o n c : Nat) (xs : List Int) (cv : Int) (w : World) (hx : xs.length = n) (hc : ∀ i, i < n → w.cell? ⟨b, o + i, none⟩ = some (.int .u8 (xs.getD i 0))) :
    Calls Tryz.prog 63 #[.slice (some ⟨b, o, none⟩) n c, .int .u8 cv] w fun e w' => e = .returned (.int .i64 (Lib.indexByte (Lib.bytesOf xs) cv.toNat.toUInt8)) ∧ w' = w := Any.bytes_IndexByte Tryz.lays187 b o n c xs cv w hx hc
end Go.Proofs
end
section
namespace Go.Proofs.YtahaihnlkohhgaaGreatDoor.Scope
open Go
def _root_.Go.Exit.two (Q : Exit → Act → World → Prop) (K0 K1 : Act → World → Prop) : Exit → Act → World → Prop
  | .goto l, a, w => (l = 0 ∧ K0 a w) ∨ (l = 1 ∧ K1 a w)
  | e, a, w => Q e a w
section
variable {P : Program} {a : Act} {w : World} {Q : Exit → Act → World → Prop} {K0 K1 : Act → World → Prop}
theorem _root_.Go.Exit.two_ret : Exit.two Q K0 K1 .ret a w = Q .ret a w := rfl
theorem two_mono {K1' : Act → World → Prop} (h : ∀ a w, K1 a w → K1' a w) (e : Exit) (a : Act) (w : World) (hq : Exit.two Q K0 K1 e a w) : Exit.two Q K0 K1' e a w := by
  cases e with
  | goto l =>
    rcases hq with ⟨h1, h2⟩ | ⟨h1, h2⟩
    · exact Or.inl ⟨h1, h2⟩
    exact Or.inr ⟨h1, h _ _ h2⟩
  | normal => exact hq
  | exit id => exact hq
  | ret => exact hq
  | panic ch => exact hq
  | outgrown => exact hq
def LW (P : Program) (r1 : Code) (K0 : Act → World → Prop) (Q : Exit → Act → World → Prop) (a : Act) (w : World) : Prop :=
  ∃ (I : Nat → Act → World → Prop) (n₀ : Nat), I n₀ a w ∧ ∀ n a w, I n a w → r1.wp P (Exit.two Q K0 (fun a' w' => ∃ n', n' < n ∧ I n' a' w')) a w
theorem LW.enter {r1 : Code} (hK1 : ∀ a w, LW P r1 K0 Q a w → K1 a w) (h : LW P r1 K0 Q a w) : r1.wp P (Exit.two Q K0 K1) a w := by
  obtain ⟨I, n₀, h0, hI⟩ := h;exact wp_mono (hI n₀ a w h0) (two_mono fun a' w' ⟨n', _, hn'⟩ => hK1 a' w' ⟨I, n', hn', hI⟩)
theorem wp_scope_two {c r0 r1 : Code} (h0 : findLabel c 0 = some (.seq .skip r0)) (h1 : findLabel c 1 = some (.seq .skip r1))
    (first : ∀ K0 : Act → World → Prop, (∀ a w, r0.wp P (Exit.noGoto Q) a w → K0 a w) → ∀ K1 : Act → World → Prop, (∀ a w, LW P r1 K0 Q a w → K1 a w) → c.wp P (Exit.two Q K0 K1) a w) : (Code.scope c).wp P Q a w := by
  have first := first (fun a w => r0.wp P (Exit.noGoto Q) a w) (fun _ _ h => h) (fun a w => LW P r1 (fun a w => r0.wp P (Exit.noGoto Q) a w) Q a w) (fun _ _ h => h)
  intro b k cs;have hg0 : gotoIn 0 (.inScope c :: k) = some (.code (.seq .skip r0) :: .inScope c :: k) := by simp [gotoIn, h0]
  have hg1 : gotoIn 1 (.inScope c :: k) = some (.code (.seq .skip r1) :: .inScope c :: k) := by simp [gotoIn, h1]
  have key0 : ∀ a w, r0.wp P (Exit.noGoto Q) a w → ∃ e a' w', Q e a' w' ∧ Arrives P (lone (b.at a (.code (.seq .skip r0) :: .inScope c :: k)) cs w) b k cs e a' w' := by
    intro a w h;have h : (Code.seq .skip r0).wp P (Exit.noGoto Q) a w := wp_seq (wp_skip h);obtain ⟨e, a₁, w₁, hq, harr⟩ := h b (.inScope c :: k) cs;cases e with
    | normal => exact ⟨.normal, a₁, w₁, hq, Steps.trans harr (.one step_inScope)⟩
    | exit id => exact ⟨.exit id, a₁, w₁, hq, fun k' hk => harr k' (by simp [exitTo, hk])⟩
    | goto l => exact hq.elim
    | ret => exact ⟨_, a₁, w₁, hq, harr⟩
    | panic ch => exact ⟨_, a₁, w₁, hq, harr⟩
    | outgrown => exact ⟨_, a₁, w₁, hq, harr⟩
  have key1 : ∀ I : Nat → Act → World → Prop, (∀ n a w, I n a w → r1.wp P (Exit.two Q (fun a w => r0.wp P (Exit.noGoto Q) a w) (fun a' w' => ∃ n', n' < n ∧ I n' a' w')) a w) →
      ∀ n a w, I n a w → ∃ e a' w', Q e a' w' ∧ Arrives P (lone (b.at a (.code (.seq .skip r1) :: .inScope c :: k)) cs w) b k cs e a' w' := by
    intro I hI n
    induction n using Nat.strongRecOn with
    | _ n ih =>
      intro a w hJ;have h : (Code.seq .skip r1).wp P (Exit.two Q (fun a w => r0.wp P (Exit.noGoto Q) a w) (fun a' w' => ∃ n', n' < n ∧ I n' a' w')) a w := wp_seq (wp_skip (hI n a w hJ));obtain ⟨e, a₁, w₁, hq, harr⟩ := h b (.inScope c :: k) cs;cases e with
      | normal => exact ⟨.normal, a₁, w₁, hq, Steps.trans harr (.one step_inScope)⟩
      | exit id => exact ⟨.exit id, a₁, w₁, hq, fun k' hk => harr k' (by simp [exitTo, hk])⟩
      | goto l' =>
        rcases hq with ⟨rfl, hq⟩ | ⟨rfl, n', hlt, hn'⟩
        · obtain ⟨e₂, a₂, w₂, hq₂, harr₂⟩ := key0 _ _ hq;exact ⟨e₂, a₂, w₂, hq₂, .of_steps (harr _ hg0) harr₂⟩
        obtain ⟨e₂, a₂, w₂, hq₂, harr₂⟩ := ih n' hlt _ _ hn';exact ⟨e₂, a₂, w₂, hq₂, .of_steps (harr _ hg1) harr₂⟩
      | ret => exact ⟨_, a₁, w₁, hq, harr⟩
      | panic ch => exact ⟨_, a₁, w₁, hq, harr⟩
      | outgrown => exact ⟨_, a₁, w₁, hq, harr⟩
  obtain ⟨e, a₁, w₁, hq, harr⟩ := first b (.inScope c :: k) cs
  cases e with
  | normal => exact ⟨.normal, a₁, w₁, hq, .head step_scope (Steps.trans harr (.one step_inScope))⟩
  | exit id => exact ⟨.exit id, a₁, w₁, hq, fun k' hk => .head step_scope (harr k' (by simp [exitTo, hk]))⟩
  | goto l' =>
    rcases hq with ⟨rfl, hq⟩ | ⟨rfl, I, n₀, hI0, hI⟩
    · obtain ⟨e₂, a₂, w₂, hq₂, harr₂⟩ := key0 _ _ hq;exact ⟨e₂, a₂, w₂, hq₂, .of_steps (.head step_scope (harr _ hg0)) harr₂⟩
    obtain ⟨e₂, a₂, w₂, hq₂, harr₂⟩ := key1 I hI n₀ _ _ hI0;exact ⟨e₂, a₂, w₂, hq₂, .of_steps (.head step_scope (harr _ hg1)) harr₂⟩
  | ret => exact ⟨_, a₁, w₁, hq, .of_steps (.one step_scope) harr⟩
  | panic ch => exact ⟨_, a₁, w₁, hq, .of_steps (.one step_scope) harr⟩
  | outgrown => exact ⟨_, a₁, w₁, hq, .of_steps (.one step_scope) harr⟩
end
end Go.Proofs.YtahaihnlkohhgaaGreatDoor.Scope
end
section
namespace Go.Proofs.YtahaihnlkohhgaaGreatDoor.S
open Go.RowKit Go.Proofs.YtahaihnlkohhgaaGreatDoorW.PrintWords Go.Proofs.YtahaihnlkohhgaaGreatDoorW.PrintLast Go.Proofs.YtahaihnlkohhgaaGreatDoorW.PrintMore
attribute [local go_sem] max2_int min2_int max_two min_two max_three min_three max_four min_four
set_option linter.unusedVariables false
set_option linter.unusedSimpArgs false
def ML (w : World) : Prop := ∃ m : Int, w.cell? ⟨1, 0, none⟩ = some (.int .i64 m)
theorem ML.keep {w w' : World} (h : ML w) (hb : Below w.heap.size w w') : ML w' := by
  obtain ⟨m, hm⟩ := h;refine ⟨m, ?_⟩;have h0 : (⟨1, 0, none⟩ : Addr).block < w.heap.size := zw w _ hm;have h1 : w'.heap[1]? = w.heap[1]? := hb.block 1 h0;rw [← hm];simp [World.cell?, h1]

theorem int_inner {P_ : World} {b_ : Nat} {ok_ : Nat → Prop} {xs : List Int} {inner : List Value} (hr : Reps ((Kd.int .u8).M P_ b_ ok_) 1 xs inner) : inner = xs.map (Value.int .u8) := by
  apply List.ext_getElem?;intro j
  rcases Nat.lt_or_ge j xs.length with hj | hj
  rotate_left
  · have h3 : inner.length = xs.length := by have := hr.1; omega
    rw [List.getElem?_eq_none zO, List.getElem?_eq_none (by rw [List.length_map]; omega)]
  have h2 := hr.2 j _ (zr hj);have hl : j < inner.length := by have := hr.1; omega
  have h3 : (inner.drop (j * 1)).take 1 = [Value.int .u8 xs[j]] := h2;rw [Nat.mul_one, List.drop_eq_getElem_cons hl] at h3;have h4 : inner[j] = Value.int .u8 xs[j] := by
    have h5 := congrArg List.head? h3;rw [List.take_succ_cons] at h5;exact zo h5
  rw [zr hl, h4];simp [zr hj]
theorem marked_V (W : World) (xs : List Int) (e base : Nat) (fr : Nat × Nat) (ok : Nat → Prop) (hok : ok W.heap.size) (hm : xs.length ≤ 9223372036854775807) :
    Kd.V (Kd.int .u8) e (W.alloc (.cells (xs.map (Value.int .u8)).toArray e fr)) base ok (.slice (some ⟨W.heap.size, 0, none⟩) xs.length xs.length) xs := by
  refine Kd.V_mk (zh _) ?_;intro W' hk;have hsz : (W.alloc (.cells (xs.map (Value.int .u8)).toArray e fr)).heap.size = W.heap.size + 1 := by
    show (W.heap.push _).size = _
    simp
  have hh : W'.heap[W.heap.size]? = some (.cells (xs.map (Value.int .u8)).toArray e fr) := by
    rw [hk W.heap.size hok zO]
    show (W.heap.push _)[W.heap.size]? = _
    simp
  refine Kd.C_of_reads (d := (0 : Int)) (h1 := fun _ => rfl) ⟨rfl, hm, fun _ => ⟨_, rfl, fun j hj => ?_⟩⟩;rw [add_plain];simp [World.cell?, hh, zr hj, List.getD_eq_getElem?_getD]
theorem Kd.V_lit {P : Program} {ops : Array Oper} {Q : Exit → Act → World → Prop} {o : Oper} {rest : List Oper} {a : Act} {w0 W : World} (_d : Kd Int) (base e : Nat) (hgd : o.guard = none) {N : Tmp} (_hd : o.dst = some N) {xs : List Int} {inner : List Value} {ok okp : Nat → Prop}
    (hrun : (execOp a.eval o).run P (W.alloc (.cells inner.toArray e)) = .ok (.value (.slice (some ⟨W.heap.size, 0, none⟩) xs.length xs.length)) (W.alloc (.cells inner.toArray e (inner.length, inner.length + 1))))
    (hrep : Reps ((Kd.int .u8).M W base okp) 1 xs inner) (_hok : ∀ k, okp k → ok k) (hfresh : ok W.heap.size) (HB : Below base w0 W) (hbase : base ≤ W.heap.size) (hm : xs.length ≤ 9223372036854775807)
    (h : ∀ v1 w1, Kd.V (Kd.int .u8) e w1 base ok v1 xs → Below base w0 w1 → True → True → wpList P ops Q rest (a.put o.dst v1) w1) : wpList P ops Q (o :: rest) a (W.alloc (.cells inner.toArray e)) := by
  have hi := int_inner hrep;subst hi;exact Kd.event_run hgd hrun (h _ _ (marked_V W xs e base _ ok hfresh hm) (HB.alloc hbase _) trivial trivial)

def MRow (W : World) (b e : Nat) (l : List UInt8) : Prop :=
  ∃ pad : List Value, W.heap[b]? = some (.cells (l.map (fun x => Value.int .u8 (x.toNat : Int)) ++ pad).toArray e (l.length + pad.length, l.length + pad.length + 1))
theorem MRow.cell {W : World} {b e : Nat} {l : List UInt8} (h : MRow W b e l) (i : Nat) (hi : i < l.length) : W.cell? ⟨b, i, none⟩ = some (.int .u8 ((l[i]).toNat : Int)) := by
  obtain ⟨pad, h⟩ := h;simp [World.cell?, h, List.getElem?_append, hi]
theorem MRow.frozen {W : World} {b e : Nat} {l : List UInt8} (h : MRow W b e l) (i : Nat) (hi : i < l.length) : W.frozen? ⟨b, i, none⟩ = false := by
  obtain ⟨pad, h⟩ := h;simp [World.frozen?, h];omega
theorem MRow.set {W : World} {b e : Nat} {l : List UInt8} (h : MRow W b e l) (i : Nat) (hi : i < l.length) (x : UInt8) : MRow (W.setCell ⟨b, i, none⟩ (.int .u8 (x.toNat : Int))) b e (l.set i x) := by
  obtain ⟨pad, h⟩ := h;refine ⟨pad, ?_⟩;simp [World.setCell, Array.getElem?_modify, h, List.map_set, hi]
theorem MRow.below {W W' : World} {b e : Nat} {l : List UInt8} (h : MRow W b e l) (hb : Below W.heap.size W W') : MRow W' b e l := by
  obtain ⟨pad, h⟩ := h;exact ⟨pad, (hb.block b (Array.getElem?_eq_some_iff.1 h).1).trans h⟩
theorem MRow.new (w : World) (e : TypeId) (s : ByteArray) : MRow (Lib.bytesWorld w e s) w.heap.size e s.data.toList := by
  refine ⟨List.replicate (grownCap w s.size 0 e - s.size) (.int .u8 0), ?_⟩;rw [Lib.bytesWorld_at_new];have hs : s.data.toList.length = s.size := by simp
  congr 2
  · apply Array.ext';simp [Lib.bytesCells]
  simp [Lib.bytesCells]
theorem bytes_below (w : World) (e : TypeId) (s : ByteArray) : Below w.heap.size w (Lib.bytesWorld w e s) := by
  refine ⟨rfl, rfl, rfl, ?_, fun k hk => Lib.bytesWorld_at_old w e s k hk⟩;rw [Lib.bytesWorld_size];omega
theorem MRow.C {W : World} {b e : Nat} {l : List UInt8} (h : MRow W b e l) (hl : l.length ≤ 9223372036854775807) : Kd.C (Kd.int .u8) W (some ⟨b, 0, none⟩) (l.map (fun x => (x.toNat : Int))).length (l.map (fun x => (x.toNat : Int))) := by
  refine Kd.C_of_reads (d := (0 : Int)) (h1 := fun _ => rfl) ⟨rfl, by rw [List.length_map]; exact hl, fun _ => ⟨_, rfl, fun j hj => ?_⟩⟩;rw [List.length_map] at hj;rw [add_plain, h.cell j hj];simp [List.getD_eq_getElem?_getD, hj]
theorem MRow.string {P : Program} {W : World} {b e : Nat} {l : List UInt8} {src dst : TypeId} (hs : P.underlying src = some (.slice e)) (he : P.underlying e = some (.int .u8)) (hd : P.underlying dst = some .string)
    (h : MRow W b e l) (hl : l.length ≤ 9223372036854775807) (c : Nat) : (convert src dst (.slice (some ⟨b, 0, none⟩) l.length c)).run P W = .ok (.string ⟨l.toArray⟩) W := by
  have h2 := Kd.C_string (P := P) (c := c) hs he hd (h.C hl);have h3 : strOfNums (l.map (fun x => (x.toNat : Int))) = ⟨l.toArray⟩ := by
    unfold strOfNums
    congr 2
    rw [List.map_map]
    conv => rhs; rw [← List.map_id l]
    apply List.map_congr_left;intro x _;simp
  rw [List.length_map, h3] at h2;exact h2
def Kd.float : Kd Nat := Kd.scalar (Value.float .f64) (fun _ => rfl)
theorem Kd.at_float {w : World} {A : Option Addr} {n : Nat} {xs : List Nat} (h : Kd.float.C w A n xs) (i : Int) (h0 : 0 ≤ i) (h1 : i < n) : ∃ ad, A = some ad ∧ w.cell? (ad.add i.toNat) = some (.float .f64 (rdOf 0 xs i)) :=
  ReadsOf.at_ (Kd.reads_of_C (enc := Value.float .f64) (d := (0 : Nat)) (h1 := fun _ => rfl) h) i h0 h1
def fadd (a b : Nat) : Nat := (Ieee.double.add a b).getD 0
def fsub (a b : Nat) : Nat := (Ieee.double.sub a b).getD 0
def fmul (a b : Nat) : Nat := (Ieee.double.mul a b).getD 0
def fquo (a b : Nat) : Nat := (Ieee.double.div a b).getD 0
def faddOk (a b : Nat) : Bool := (Ieee.double.add a b).isSome
def fsubOk (a b : Nat) : Bool := (Ieee.double.sub a b).isSome
def fmulOk (a b : Nat) : Bool := (Ieee.double.mul a b).isSome
def fquoOk (a b : Nat) : Bool := (Ieee.double.div a b).isSome
def feql (a b : Nat) : Bool := Ieee.double.order a b == some .eq
def fneq (a b : Nat) : Bool := Ieee.double.order a b != some .eq
def flss (a b : Nat) : Bool := Ieee.double.order a b == some .lt
def fleq (a b : Nat) : Bool := Ieee.double.order a b == some .lt || Ieee.double.order a b == some .eq
def fgtr (a b : Nat) : Bool := Ieee.double.order a b == some .gt
def fgeq (a b : Nat) : Bool := Ieee.double.order a b == some .gt || Ieee.double.order a b == some .eq
def fneg (a : Nat) : Nat := Op.negFloat .f64 a
def fint (n : Int) : Nat := FloatKind.f64.nearest n
section
variable {P : Program} (w : World) (t : TypeId) (a b : Nat)
theorem fbin_eql : binOp .eql t (.float .f64 a) (.float .f64 b) = pure (.bool (feql a b)) := by simp [binOp, Op.equal, Op.equalIn, Op.floatCmp, feql, FloatKind.format]
theorem fbin_neq : binOp .neq t (.float .f64 a) (.float .f64 b) = pure (.bool (fneq a b)) := by simp [binOp, Op.floatCmp, fneq, FloatKind.format]
theorem fbin_lss : binOp .lss t (.float .f64 a) (.float .f64 b) = pure (.bool (flss a b)) := by simp [binOp, Op.floatCmp, flss, FloatKind.format]
theorem fbin_leq : binOp .leq t (.float .f64 a) (.float .f64 b) = pure (.bool (fleq a b)) := by simp [binOp, Op.floatCmp, fleq, FloatKind.format]
theorem fbin_gtr : binOp .gtr t (.float .f64 a) (.float .f64 b) = pure (.bool (fgtr a b)) := by simp [binOp, Op.floatCmp, fgtr, FloatKind.format]
theorem fbin_geq : binOp .geq t (.float .f64 a) (.float .f64 b) = pure (.bool (fgeq a b)) := by simp [binOp, Op.floatCmp, fgeq, FloatKind.format]
theorem frun_add (h : faddOk a b = true) : (binOp .add t (.float .f64 a) (.float .f64 b)).run P w = .ok (.float .f64 (fadd a b)) w := by
  obtain ⟨r, hr⟩ := Option.isSome_iff_exists.1 h;simp [binOp, Op.floatArith, FloatKind.format, fadd, hr]
theorem frun_sub (h : fsubOk a b = true) : (binOp .sub t (.float .f64 a) (.float .f64 b)).run P w = .ok (.float .f64 (fsub a b)) w := by
  obtain ⟨r, hr⟩ := Option.isSome_iff_exists.1 h;simp [binOp, Op.floatArith, FloatKind.format, fsub, hr]
theorem frun_mul (h : fmulOk a b = true) : (binOp .mul t (.float .f64 a) (.float .f64 b)).run P w = .ok (.float .f64 (fmul a b)) w := by
  obtain ⟨r, hr⟩ := Option.isSome_iff_exists.1 h;simp [binOp, Op.floatArith, FloatKind.format, fmul, hr]
theorem frun_quo (h : fquoOk a b = true) : (binOp .quo t (.float .f64 a) (.float .f64 b)).run P w = .ok (.float .f64 (fquo a b)) w := by
  obtain ⟨r, hr⟩ := Option.isSome_iff_exists.1 h;simp [binOp, Op.floatArith, FloatKind.format, fquo, hr]
theorem frun_store (x : Addr) (m : Mode) : (store x (.float .f64 a) m).run P w = stored P w x (.float .f64 a) m := run_store P w x _ m rfl
theorem fun_neg : Op.unary .neg (.float .f64 a) = pure (.float .f64 (fneg a)) := rfl
theorem fcv_int {s : TypeId} {k : IntKind} (hs : P.underlying s = some (.int k)) (ht : P.underlying t = some (.float .f64)) (n : Int) : (convert s t (.int k n)).run P w = .ok (.float .f64 (fint n)) w := by
  simp [convert, run_underlying hs, run_underlying ht, Conv.intToFloat, fint]
theorem fcv_same {s : TypeId} (hs : P.underlying s = some (.float .f64)) (ht : P.underlying t = some (.float .f64)) : (convert s t (.float .f64 a)).run P w = .ok (.float .f64 a) w := by
  simp [convert, run_underlying hs, run_underlying ht, Conv.floatToFloat]
end
set_option maxRecDepth 100000 in
theorem fb41 (n : Nat) (w : World) : (callFunc 41 #[.float .f64 n]).run Tryz.prog w = .ok (.value (.int .u64 n)) w := by rfl
set_option maxRecDepth 100000 in
theorem fb85 (n : Int) (w : World) : (callFunc 85 #[.int .u64 n]).run Tryz.prog w = .ok (.value (.float .f64 n.toNat)) w := by rfl



def errW : Option Int → Value
  | none => .nilIface
  | some c => .iface 0 (.int .i64 c)
theorem errW_none : errW none = .nilIface := rfl
theorem errW_some (c : Int) : errW (some c) = .iface 0 (.int .i64 c) := rfl

theorem info5 : (Tryz.prog.info? 5).map (fun i => (i.zero, i.size, i.bytes)) = some (some (.int .u8 0), 1, 1) := by kernel_rfl
theorem info9 : (Tryz.prog.info? 9).map (fun i => (i.zero, i.size, i.bytes)) = some (some (.string ⟨#[]⟩), 1, 16) := by kernel_rfl
theorem info30 : (Tryz.prog.info? 30).map (fun i => (i.zero, i.size, i.bytes)) = some (some (.float .f64 0), 1, 8) := by kernel_rfl
theorem info39 : (Tryz.prog.info? 39).map (fun i => (i.zero, i.size, i.bytes)) = some (some (.agg #[(.string ⟨#[]⟩), (.slice none 0 0)]), 2, 40) := by kernel_rfl
theorem info41 : (Tryz.prog.info? 41).map (fun i => (i.zero, i.size, i.bytes)) = some (some (.agg #[(.string ⟨#[]⟩), (.float .f64 0)]), 2, 24) := by kernel_rfl
theorem info64 : (Tryz.prog.info? 64).map (fun i => (i.zero, i.size, i.bytes)) = some (some (.agg #[(.string ⟨#[]⟩), (.string ⟨#[]⟩), (.string ⟨#[]⟩)]), 3, 48) := by kernel_rfl
theorem info84 : (Tryz.prog.info? 84).map (fun i => (i.zero, i.size, i.bytes)) = some (some (.agg #[(.string ⟨#[]⟩), (.string ⟨#[]⟩)]), 2, 32) := by kernel_rfl
-- the values' own types
structure S64 where
  f0 : ByteArray
  f1 : ByteArray
  f2 : ByteArray
def z64 : S64 := ⟨(⟨#[]⟩ : ByteArray), (⟨#[]⟩ : ByteArray), (⟨#[]⟩ : ByteArray)⟩
def k64 : Kd S64 := Kd.iso (Kd.pair Kd.string (Kd.pair Kd.string Kd.string)) (fun x : S64 => (x.f0, x.f1, x.f2))
theorem k64_open {w : World} {x : S64} {cs : List Value} (h : k64.K w x cs) : cs = [.string x.f0, .string x.f1, .string x.f2] := by
  obtain ⟨_, _, rfl, rfl, ⟨_, _, rfl, rfl, rfl⟩⟩ := h;exact rfl
theorem k64_mkM (w : World) (base : Nat) (ok : Nat → Prop) (x : S64)  : k64.M w base ok x [.string x.f0, .string x.f1, .string x.f2] := ⟨[.string x.f0], [.string x.f1, .string x.f2], rfl, rfl, ⟨[.string x.f1], [.string x.f2], rfl, rfl, rfl⟩⟩
def rd_T64 (xs : List S64) (i : Int) : S64 := xs.getD i.toNat z64
theorem at_T64 {w : World} {A : Option Addr} {n : Nat} {xs : List S64} (h : Kd.C k64 w A n xs) (i : Int) (h0 : 0 ≤ i) (h1 : i < n) : ∃ ad , A = some ad ∧ w.cell? (ad.add (i.toNat * 3)) = some (.string (rd_T64 xs i).f0) ∧ w.cell? ⟨(ad.add (i.toNat * 3)).block, (ad.add (i.toNat * 3)).off + 1, none⟩ = some (.string (rd_T64 xs i).f1) ∧ w.cell? ⟨(ad.add (i.toNat * 3)).block, (ad.add (i.toNat * 3)).off + 2, none⟩ = some (.string (rd_T64 xs i).f2) := by
  obtain ⟨ad, c, e, _, hK, hc0⟩ := Kd.C_get h z64 i h0 h1;have hc : ∀ j u, c[j]? = some u → w.cell? (ad.add (i.toNat * 3 + j)) = some u := hc0;obtain rfl := k64_open hK;exact ⟨ad, e, hc 0 _ rfl, by rw [← add_field _ _ 1 zO]; exact hc 1 _ rfl, by rw [← add_field _ _ 2 zO]; exact hc 2 _ rfl⟩

structure S41 where
  f0 : ByteArray
  f1 : Nat
def z41 : S41 := ⟨(⟨#[]⟩ : ByteArray), (0 : Nat)⟩
def k41 : Kd S41 := Kd.iso (Kd.pair Kd.string Kd.float) (fun x : S41 => (x.f0, x.f1))
theorem k41_open {w : World} {x : S41} {cs : List Value} (h : k41.K w x cs) : cs = [.string x.f0, .float .f64 x.f1] := by
  obtain ⟨_, _, rfl, rfl, rfl⟩ := h;exact rfl
theorem k41_mkM (w : World) (base : Nat) (ok : Nat → Prop) (x : S41)  : k41.M w base ok x [.string x.f0, .float .f64 x.f1] := ⟨[.string x.f0], [.float .f64 x.f1], rfl, rfl, rfl⟩
def rd_T41 (xs : List S41) (i : Int) : S41 := xs.getD i.toNat z41
theorem at_T41 {w : World} {A : Option Addr} {n : Nat} {xs : List S41} (h : Kd.C k41 w A n xs) (i : Int) (h0 : 0 ≤ i) (h1 : i < n) : ∃ ad , A = some ad ∧ w.cell? (ad.add (i.toNat * 2)) = some (.string (rd_T41 xs i).f0) ∧ w.cell? ⟨(ad.add (i.toNat * 2)).block, (ad.add (i.toNat * 2)).off + 1, none⟩ = some (.float .f64 (rd_T41 xs i).f1) := by
  obtain ⟨ad, c, e, _, hK, hc0⟩ := Kd.C_get h z41 i h0 h1;have hc : ∀ j u, c[j]? = some u → w.cell? (ad.add (i.toNat * 2 + j)) = some u := hc0;obtain rfl := k41_open hK;exact ⟨ad, e, hc 0 _ rfl, by rw [← add_field _ _ 1 zO]; exact hc 1 _ rfl⟩

structure S39 where
  f0 : ByteArray
  f1 : (List S41)
def z39 : S39 := ⟨(⟨#[]⟩ : ByteArray), ([] : List S41)⟩
def k39 : Kd S39 := Kd.iso (Kd.pair Kd.string (Kd.slice 41 k41)) (fun x : S39 => (x.f0, x.f1))
theorem k39_open {w : World} {x : S39} {cs : List Value} (h : k39.K w x cs) : ∃ A1 c1, cs = [.string x.f0, .slice A1 x.f1.length c1] ∧ x.f1.length ≤ c1 ∧ k41.C w A1 x.f1.length x.f1 := by
  obtain ⟨_, _, rfl, rfl, ⟨A1, c1, rfl, l1, g1⟩⟩ := h;exact ⟨A1, c1, rfl, l1, g1⟩
theorem k39_mkM (w : World) (base : Nat) (ok : Nat → Prop) (x : S39) {v1 : Value} (g1 : k41.R 41 w base ok v1 x.f1) : k39.M w base ok x [.string x.f0, v1] := ⟨[.string x.f0], [v1], rfl, rfl, ⟨v1, rfl, g1⟩⟩
def rd_T39 (xs : List S39) (i : Int) : S39 := xs.getD i.toNat z39
theorem at_T39 {w : World} {A : Option Addr} {n : Nat} {xs : List S39} (h : Kd.C k39 w A n xs) (i : Int) (h0 : 0 ≤ i) (h1 : i < n) : ∃ ad A1 c1, A = some ad ∧ w.cell? (ad.add (i.toNat * 2)) = some (.string (rd_T39 xs i).f0) ∧ w.cell? ⟨(ad.add (i.toNat * 2)).block, (ad.add (i.toNat * 2)).off + 1, none⟩ = some (.slice A1 (rd_T39 xs i).f1.length c1) ∧ (rd_T39 xs i).f1.length ≤ c1 ∧ k41.C w A1 (rd_T39 xs i).f1.length (rd_T39 xs i).f1 := by
  obtain ⟨ad, c, e, _, hK, hc0⟩ := Kd.C_get h z39 i h0 h1;have hc : ∀ j u, c[j]? = some u → w.cell? (ad.add (i.toNat * 2 + j)) = some u := hc0;obtain ⟨A1, c1, rfl, l1, g1⟩ := k39_open hK;exact ⟨ad, A1, c1, e, hc 0 _ rfl, by rw [← add_field _ _ 1 zO]; exact hc 1 _ rfl, l1, g1⟩

structure S84 where
  f0 : ByteArray
  f1 : ByteArray
def k84 : Kd S84 := Kd.iso (Kd.pair Kd.string Kd.string) (fun x : S84 => (x.f0, x.f1))
theorem k84_mkM (w : World) (base : Nat) (ok : Nat → Prop) (x : S84)  : k84.M w base ok x [.string x.f0, .string x.f1] := ⟨[.string x.f0], [.string x.f1], rfl, rfl, rfl⟩
end Go.Proofs.YtahaihnlkohhgaaGreatDoor.S
end
section
namespace Go.Proofs.YtahaihnlkohhgaaGreatDoor.S
open Go.RowKit Go.Proofs.YtahaihnlkohhgaaGreatDoorW.PrintWords Go.Proofs.YtahaihnlkohhgaaGreatDoorW.PrintLast Go.Proofs.YtahaihnlkohhgaaGreatDoorW.PrintMore
attribute [local go_sem] max2_int min2_int max_two min_two max_three min_three max_four min_four
attribute [local go_sem] fbin_eql fbin_neq fbin_lss fbin_leq fbin_gtr fbin_geq frun_add frun_sub frun_mul frun_quo frun_store fun_neg fcv_int fcv_same fb41 fb85
set_option linter.unusedVariables false
set_option linter.unusedSimpArgs false
def IsS52 (w0 W : World) (g : Nat) (f0 : Int) (f1 : List (S64)) (f2 : List (S39)) : Prop := ∃ A1 c1, ∃ A2 c2, W.heap[g]? = some (.cells #[.int .i64 f0, .slice A1 f1.length c1, .slice A2 f2.length c2] 52 (0, 0)) ∧ w0.heap.size ≤ g ∧ Kd.C k64 w0 A1 f1.length f1 ∧ Kd.C k39 w0 A2 f2.length f2
theorem IsS52.grown {w0 W : World} {g : Nat} {f0 : Int} {f1 : List (S64)} {f2 : List (S39)} {W1 : World} {row : Option Nat} (h : IsS52 w0 W g f0 f1 f2) (hw : W.grownBy W1 row) (hne : some g ≠ row) : IsS52 w0 W1 g f0 f1 f2 := by
  obtain ⟨A1, c1, A2, c2, hb, hg, hr1, hr2⟩ := h;exact ⟨A1, c1, A2, c2, blk_grown hb hw hne, hg, hr1, hr2⟩
theorem IsS52.kept {w0 W : World} {g : Nat} {f0 : Int} {f1 : List (S64)} {f2 : List (S39)} {W1 : World} {S : Nat → Prop} (h : IsS52 w0 W g f0 f1 f2) (hk : Kept W W1 S) (hne : ¬ S g) : IsS52 w0 W1 g f0 f1 f2 := by
  obtain ⟨A1, c1, A2, c2, hb, hg, hr1, hr2⟩ := h;exact ⟨A1, c1, A2, c2, blk_kept hb hk hne, hg, hr1, hr2⟩
theorem IsS52.below {w0 W : World} {g : Nat} {f0 : Int} {f1 : List (S64)} {f2 : List (S39)} {W1 : World} (h : IsS52 w0 W g f0 f1 f2) (hw : Below W.heap.size W W1) : IsS52 w0 W1 g f0 f1 f2 := h.grown (grown_of_below hw none) (by simp)
theorem IsS52.alloc {w0 W : World} {g : Nat} {f0 : Int} {f1 : List (S64)} {f2 : List (S39)} (h : IsS52 w0 W g f0 f1 f2) (o : Obj) : IsS52 w0 (W.alloc o) g f0 f1 f2 := h.below (below_alloc (Below.refl _ _) o)
theorem IsS52.drewN {w0 W : World} {g : Nat} {f0 : Int} {f1 : List (S64)} {f2 : List (S39)} (h : IsS52 w0 W g f0 f1 f2) (m : Nat) : IsS52 w0 (W.drewN m) g f0 f1 f2 := h
theorem IsS52.drew {w0 W : World} {g : Nat} {f0 : Int} {f1 : List (S64)} {f2 : List (S39)} (h : IsS52 w0 W g f0 f1 f2) : IsS52 w0 W.drew g f0 f1 f2 := h
theorem IsS52.at_ {w0 W : World} {g : Nat} {f0 : Int} {f1 : List (S64)} {f2 : List (S39)} {w' : World} {m : Nat} (hq : W.drewN m = w') (h : IsS52 w0 W g f0 f1 f2) : IsS52 w0 w' g f0 f1 f2 := by subst hq; exact IsS52.drewN h m
theorem IsS52.apart {w0 W : World} {g : Nat} {f0 : Int} {f1 : List (S64)} {f2 : List (S39)} {α : Type} {d : Kd α} {e : Nat} {base : Nat} {ok : Nat → Prop} {v : Value} {xs : List α} (h : IsS52 w0 W g f0 f1 f2) (ho : d.R e W base ok v xs) (ht : ∀ q, q ∈ e :: d.E → q ≠ 52) : d.R e W base (fun k => ok k ∧ k ≠ g) v xs := by
  obtain ⟨A1, c1, A2, c2, hb, hg, hr1, hr2⟩ := h;exact Kd.R_types ho hb ht
theorem IsS52.own_ne {w0 W : World} {g : Nat} {f0 : Int} {f1 : List (S64)} {f2 : List (S39)} {α : Type} {d : Kd α} {e : Nat} {base : Nat} {ok : Nat → Prop} {v : Value} {xs : List α} (h : IsS52 w0 W g f0 f1 f2) (ho : d.R e W base ok v xs) (ht : e ≠ 52) : some g ≠ v.ownBlock := by
  obtain ⟨A1, c1, A2, c2, hb, hg, hr1, hr2⟩ := h;exact Kd.R_ne ho hb ht
theorem IsS52.lt {w0 W : World} {g : Nat} {f0 : Int} {f1 : List (S64)} {f2 : List (S39)} (h : IsS52 w0 W g f0 f1 f2) : g < W.heap.size := by
  obtain ⟨A1, c1, A2, c2, hb, hg, hr1, hr2⟩ := h;exact blk_lt hb
theorem IsS52.ge {w0 W : World} {g : Nat} {f0 : Int} {f1 : List (S64)} {f2 : List (S39)} (h : IsS52 w0 W g f0 f1 f2) : w0.heap.size ≤ g := by
  obtain ⟨A1, c1, A2, c2, hb, hg, hr1, hr2⟩ := h;exact hg
theorem IsS52.far {w0 W : World} {g : Nat} {f0 : Int} {f1 : List (S64)} {f2 : List (S39)} {p : Addr} (h : IsS52 w0 W g f0 f1 f2) (hne : g ≠ p.block) (u : Value) : IsS52 w0 (W.setCell p u) g f0 f1 f2 := by
  obtain ⟨A1, c1, A2, c2, hb, hg, hr1, hr2⟩ := h;exact ⟨A1, c1, A2, c2, blk_far hb hne u, hg, hr1, hr2⟩
theorem cellS52_0 {W : World} {g : Nat} {A1 : Option Addr} {c1 : Nat} {A2 : Option Addr} {c2 : Nat} {f0 : Int} {f1 : List (S64)} {f2 : List (S39)} (h : W.heap[g]? = some (.cells #[.int .i64 f0, .slice A1 f1.length c1, .slice A2 f2.length c2] 52 (0, 0))) : W.cell? ⟨g, 0, none⟩ = some (.int .i64 f0) := (blk_cell h 0).trans rfl
theorem IsS52.set_0 {w0 W : World} {g : Nat} {f0 : Int} {f1 : List (S64)} {f2 : List (S39)} (h : IsS52 w0 W g f0 f1 f2) (x : Int) : IsS52 w0 (W.setCell ⟨g, 0, none⟩ (.int .i64 x)) g x f1 f2 := by
  obtain ⟨A1, c1, A2, c2, hb, hg, hr1, hr2⟩ := h;exact ⟨A1, c1, A2, c2, by simpa using blk_set hb 0 (.int .i64 x), hg, hr1, hr2⟩
theorem IsS52.new (w0 W : World) (A1 : Option Addr) (c1 : Nat) (A2 : Option Addr) (c2 : Nat) (f0 : Int) (f1 : List (S64)) (f2 : List (S39)) (hB : Below w0.heap.size w0 W) (hr1 : Kd.C k64 w0 A1 f1.length f1) (hr2 : Kd.C k39 w0 A2 f2.length f2) : IsS52 w0 (W.alloc (.cells #[.int .i64 f0, .slice A1 f1.length c1, .slice A2 f2.length c2] 52)) W.heap.size f0 f1 f2 := ⟨A1, c1, A2, c2, by simpa using heap_alloc_new W _, hB.size, hr1, hr2⟩

def plane_New.f  : Option (Int × (List (S64)) × (List (S39))) := some (0, ([] : List (S64)), ([] : List (S39)))
set_option maxHeartbeats 8000000 in
set_option maxRecDepth 100000 in
theorem plane_New.calls  (r1 : Int) (r2 : List (S64)) (r3 : List (S39)) (w0 w : World) (hB : Below w0.heap.size w0 w) (h : plane_New.f  = some (r1, r2, r3)) :
    Calls Tryz.prog 4 #[] w fun e w' => ∃ g_ : Nat, e = .returned (.pointer (some ⟨g_, 0, none⟩)) ∧ IsS52 w0 w' g_ r1 r2 r3 ∧ Below w0.heap.size w0 w' ∧ Below w.heap.size w w' := by
  have hu52 := Tryz.underlying52;have HBW := zN (Below.refl w.heap.size w);have HW0 := zN hB.size;have HB := zN hB;clear hB;have H : (some (0, ([] : List (S64)), ([] : List (S39)))) = some (r1, r2, r3) := h;clear h;simp only [Option.some.injEq, Prod.mk.injEq] at H;obtain ⟨rfl, rfl, rfl⟩ := H;go_enter Tryz.func4, Tryz.ntmps4;go_wp2_with (first | ((with_reducible refine gate_dst (N := 2) rfl ?_); refine zX #[.int .i64 0, .slice none 0 0, .slice none 0 0] 52 rfl ?_; intro gb101 hg w1 hbox hb; replace HB := zk HB hb; have BK101 := zN hbox; have GW101 := zY w (zB HBW) hg; have GE101 := zN (Nat.le_trans HW0.out (by rw [hg]; exact (below_size (zB HBW)) : w.heap.size ≤ gb101) : w0.heap.size ≤ gb101); replace HBW := zN (below_step HBW.out hb); clear hb hbox hg));go_ret;exact ⟨_, rfl, (show IsS52 w0 _ gb101 0 ([] : List (S64)) ([] : List (S39)) from ⟨none, 0, none, 0, zK BK101, GE101.out, (Kd.C_nil _ _), (Kd.C_nil _ _)⟩), zB1 HB GE101, zB1 HBW GW101⟩

theorem eqA64 (d : Nat) (w : World) (x0 y0 : ByteArray) (x1 y1 : ByteArray) (x2 y2 : ByteArray) :
    (Op.equalIn (d + 2) 64 (.agg #[.string x0, .string x1, .string x2]) (.agg #[.string y0, .string y1, .string y2])).run Tryz.prog w = .ok (x0.toList == y0.toList && (x1.toList == y1.toList && (x2.toList == y2.toList))) w := by
  refine eqA_of Tryz.underlying64 zQ ?_;refine eqf_cons (by rfl) (by go_simp; rfl) (by go_simp; rfl) (by go_simp) ?_;refine eqf_cons (by rfl) (by go_simp; rfl) (by go_simp; rfl) (by go_simp) ?_;exact eqf_last (by rfl) (by go_simp; rfl) (by go_simp; rfl) (by go_simp)
def tollgateref08_SameTargets.l0 : Nat → List (S41) → List (S41) → Int → Option (Bool)
 | 0, _, _, _ => none
 | k + 1, x0, x1, x5 => if x5 < (x0.length : Int) then (if 0 ≤ x5 then (if x5 < (x1.length : Int) then (if ((rd_T41 x0 x5).f0).toList = ((rd_T41 x1 x5).f0).toList then (if ((rd_T41 x0 x5).f1 : Int) = ((rd_T41 x1 x5).f1 : Int) then (tollgateref08_SameTargets.l0 k x0 x1 (wrap64 (x5 + 1))) else (some false)) else (some false)) else (none)) else (none)) else (some true)
def tollgateref08_SameTargets.f (k : Nat) (l0 : List (S41)) (l1 : List (S41)) : Option (Bool) := if (l0.length : Int) = (l1.length : Int) then (tollgateref08_SameTargets.l0 k l0 l1 0) else (some false)
theorem tollgateref08_SameTargets.mono_l : ∀ k, (∀ y0 y1 y2, LeO (tollgateref08_SameTargets.l0 k y0 y1 y2) (tollgateref08_SameTargets.l0 (k + 1) y0 y1 y2))
 | 0 => fun _ _ _ r h => by simp [tollgateref08_SameTargets.l0] at h
 | k + 1 => by
  have ih0 := tollgateref08_SameTargets.mono_l k;intro y0 y1 y2;unfold tollgateref08_SameTargets.l0
  repeat' with_reducible first | exact ih0 _ _ _ | exact LeO.refl _ | exact LeO.none _ | refine LeO.ite ?_ ?_ | refine LeO.bind ?_ (fun _ => ?_)
theorem tollgateref08_SameTargets.mono : ∀ a0 a1 k, LeO (tollgateref08_SameTargets.f k a0 a1) (tollgateref08_SameTargets.f (k + 1) a0 a1) := by
 intro a0 a1 k;have ih0 := tollgateref08_SameTargets.mono_l k;unfold tollgateref08_SameTargets.f
 repeat' with_reducible first | exact ih0 _ _ _ | exact LeO.refl _ | exact LeO.none _ | refine LeO.ite ?_ ?_ | refine LeO.bind ?_ (fun _ => ?_)
set_option maxHeartbeats 8000000 in
set_option maxRecDepth 100000 in
theorem tollgateref08_SameTargets.calls (k : Nat) (A0 : Option Addr) (c0 : Nat) (l0 : List (S41)) (A1 : Option Addr) (c1 : Nat) (l1 : List (S41)) (r : Bool) (w : World) (hr0 : Kd.C k41 w A0 l0.length l0) (hc0 : l0.length ≤ c0) (hr1 : Kd.C k41 w A1 l1.length l1) (hc1 : l1.length ≤ c1) (h : tollgateref08_SameTargets.f k l0 l1 = some r) :
  Calls Tryz.prog 21 #[.slice A0 l0.length c0, .slice A1 l1.length c1] w fun e w' => e = .returned (.bool r) ∧ Drawn0 w w' := by
 have HR0 := zN hr0;have HC0 := zN hc0;clear hr0 hc0;have HR1 := zN hr1;have HC1 := zN hc1;clear hr1 hc1;have H : (if (l0.length : Int) = (l1.length : Int) then (tollgateref08_SameTargets.l0 k l0 l1 0) else (some false)) = some r := h;clear h;by_cases c3 : (l0.length : Int) = (l1.length : Int);rotate_left
 ·rw [zn c3] at H;have c3b0 := zb.mpr c3;have c3b1 := bne_iff_ne.mpr c3;have c3b2 : (l0.length == l1.length) = false := by first | simpa using c3 | (simp at c3 ⊢; omega)
  obtain rfl := zo H;go_enter Tryz.func21, Tryz.ntmps21;go_wp2
  repeat (go_quiet (fail); try go_wp2)
  go_ret;exact ⟨zI, zD⟩
 rw [zp c3] at H;have c3b0 := beq_iff_eq.mpr c3;have c3b1 := zc.mpr c3;have c3b2 : (l0.length == l1.length) = true := by first | simpa using c3 | (simp at c3 ⊢; omega)
 clear c3;have H' := zN H;clear H;go_enter Tryz.func21, Tryz.ntmps21;go_wp2
 repeat (go_quiet (fail); try go_wp2)
 go_loopg [5] k (fun kq v5 w' => ∃ (x5_1 : Int), v5 = .int .i64 x5_1 ∧ Aside0 (tollgateref08_SameTargets.l0 kq l0 l1 x5_1 = some r) ∧ Aside0 (kq ≤ k) ∧ Drawn0 w w')
 case atStart => exact ⟨(0), zI, H', ⟨zh _⟩, zD⟩
 case round =>
  clear H'
  try clear c1
  try clear c3
  try clear c3b0
  try clear c3b1
  try clear c3b2
  obtain ⟨x5_1, rfl, HA, HK1, ⟨m1, rfl⟩⟩ := hrel;cases gk with
  | zero => exact absurd HA.out (by simp [tollgateref08_SameTargets.l0])
  | succ k1 =>
   have H := HA.out;clear HA;simp only [tollgateref08_SameTargets.l0] at H;by_cases c4 : x5_1 < (l0.length : Int);rotate_left
   ·rw [zn c4] at H;have c4b0 := zf c4;clear c4;obtain rfl := zo H;go_wp2
    repeat (go_quiet (fail); try go_wp2)
    go_ret;exact ⟨zI, zD⟩
   rw [zp c4] at H;have c4b0 := zt c4;clear c4;by_cases c5 : 0 ≤ x5_1;rotate_left
   ·rw [zn c5] at H;exact absurd H (by simp)
   rw [zp c5] at H;have c5b0 := zt c5;clear c5;by_cases c6 : x5_1 < (l1.length : Int);rotate_left
   ·rw [zn c6] at H;exact absurd H (by simp)
   rw [zp c6] at H;have c6b0 := zt c6;clear c6;by_cases c7 : ((rd_T41 l0 x5_1).f0).toList = ((rd_T41 l1 x5_1).f0).toList;rotate_left
   ·rw [zn c7] at H;have c7b0 := zb.mpr c7;have c7b1 := bne_iff_ne.mpr c7;obtain rfl := zo H;have p248 : 0 ≤ (x5_1 : Int) := zd zS;have q248 : x5_1 < (l0.length : Int) := zd zS;obtain ⟨ad248, e248, hx248_0, hx248_1⟩ := at_T41 HR0.out x5_1 p248 q248;cases e248;replace p248 := zu p248;replace q248 := zu q248;have p249 : 0 ≤ (x5_1 : Int) := zd zS;have q249 : x5_1 < (l1.length : Int) := zd zS;obtain ⟨ad249, e249, hx249_0, hx249_1⟩ := at_T41 HR1.out x5_1 p249 q249;cases e249;replace p249 := zu p249;replace q249 := zu q249;go_wp2
    repeat (go_quiet (fail); try go_wp2)
    go_ret;exact ⟨zI, zD⟩
   rw [zp c7] at H;have c7b0 := beq_iff_eq.mpr c7;have c7b1 := zc.mpr c7;clear c7;by_cases c8 : ((rd_T41 l0 x5_1).f1 : Int) = ((rd_T41 l1 x5_1).f1 : Int)
   ·rw [zp c8] at H;have c8b0 := beq_iff_eq.mpr c8;have c8b1 := zc.mpr c8;clear c8;have H' := zN H;clear H;have p248 : 0 ≤ (x5_1 : Int) := zd zS;have q248 : x5_1 < (l0.length : Int) := zd zS;obtain ⟨ad248, e248, hx248_0, hx248_1⟩ := at_T41 HR0.out x5_1 p248 q248;cases e248;replace p248 := zu p248;replace q248 := zu q248;have p249 : 0 ≤ (x5_1 : Int) := zd zS;have q249 : x5_1 < (l1.length : Int) := zd zS;obtain ⟨ad249, e249, hx249_0, hx249_1⟩ := at_T41 HR1.out x5_1 p249 q249;cases e249;replace p249 := zu p249;replace q249 := zu q249;have p250 : 0 ≤ (x5_1 : Int) := zd zS;have q250 : x5_1 < (l0.length : Int) := zd zS;obtain ⟨ad250, e250, hx250_0, hx250_1⟩ := at_T41 HR0.out x5_1 p250 q250;obtain rfl : ad248 = ad250 := (by injection e250);replace p250 := zu p250;replace q250 := zu q250;have p251 : 0 ≤ (x5_1 : Int) := zd zS;have q251 : x5_1 < (l1.length : Int) := zd zS;obtain ⟨ad251, e251, hx251_0, hx251_1⟩ := at_T41 HR1.out x5_1 p251 q251;obtain rfl : ad249 = ad251 := (by injection e251);replace p251 := zu p251;replace q251 := zu q251;go_wp2
    repeat (go_quiet (fail); try go_wp2)
    go_roundg k1
    case measure => have := HK1.out; omega
    case rel => exact ⟨(wrap64 (x5_1 + 1)), zI, H', ⟨by have := HK1.out; omega⟩, zD⟩
   rw [zn c8] at H;have c8b0 := zb.mpr c8;have c8b1 := bne_iff_ne.mpr c8;obtain rfl := zo H;have p248 : 0 ≤ (x5_1 : Int) := zd zS;have q248 : x5_1 < (l0.length : Int) := zd zS;obtain ⟨ad248, e248, hx248_0, hx248_1⟩ := at_T41 HR0.out x5_1 p248 q248;cases e248;replace p248 := zu p248;replace q248 := zu q248;have p249 : 0 ≤ (x5_1 : Int) := zd zS;have q249 : x5_1 < (l1.length : Int) := zd zS;obtain ⟨ad249, e249, hx249_0, hx249_1⟩ := at_T41 HR1.out x5_1 p249 q249;cases e249;replace p249 := zu p249;replace q249 := zu q249;have p250 : 0 ≤ (x5_1 : Int) := zd zS;have q250 : x5_1 < (l0.length : Int) := zd zS;obtain ⟨ad250, e250, hx250_0, hx250_1⟩ := at_T41 HR0.out x5_1 p250 q250;obtain rfl : ad248 = ad250 := (by injection e250);replace p250 := zu p250;replace q250 := zu q250;have p251 : 0 ≤ (x5_1 : Int) := zd zS;have q251 : x5_1 < (l1.length : Int) := zd zS;obtain ⟨ad251, e251, hx251_0, hx251_1⟩ := at_T41 HR1.out x5_1 p251 q251;obtain rfl : ad249 = ad251 := (by injection e251);replace p251 := zu p251;replace q251 := zu q251;go_wp2
   repeat (go_quiet (fail); try go_wp2)
   go_ret;exact ⟨zI, zD⟩

end Go.Proofs.YtahaihnlkohhgaaGreatDoor.S
end
section
namespace Go.Proofs.YtahaihnlkohhgaaGreatDoor.S
open Go.RowKit Go.Proofs.YtahaihnlkohhgaaGreatDoorW.PrintWords Go.Proofs.YtahaihnlkohhgaaGreatDoorW.PrintLast Go.Proofs.YtahaihnlkohhgaaGreatDoorW.PrintMore
attribute [local go_sem] max2_int min2_int max_two min_two max_three min_three max_four min_four
attribute [local go_sem] fbin_eql fbin_neq fbin_lss fbin_leq fbin_gtr fbin_geq frun_add frun_sub frun_mul frun_quo frun_store fun_neg fcv_int fcv_same fb41 fb85
set_option linter.unusedVariables false
set_option linter.unusedSimpArgs false
attribute [local go_sem high] eqA64
mutual
def tollgateref08_SameConfig.j0 : Nat → Bool → Int → List (S64) → List (S39) → Int → List (S64) → List (S39) → Option (Bool)
 | 0, _, _, _, _, _, _, _ => none
 | k + 1, x29, x253000, x253001, x253002, x254000, x254001, x254002 => if x29 = true then (some false) else (tollgateref08_SameConfig.l0 k 0 x253000 x253001 x253002 x254000 x254001 x254002)
def tollgateref08_SameConfig.l0 : Nat → Int → Int → List (S64) → List (S39) → Int → List (S64) → List (S39) → Option (Bool)
 | 0, _, _, _, _, _, _, _ => none
 | k + 1, x5, x253000, x253001, x253002, x254000, x254001, x254002 => if x5 < (x253002.length : Int) then (if 0 ≤ x5 then (if x5 < (x254002.length : Int) then (if ((rd_T39 x253002 x5).f0).toList = ((rd_T39 x254002 x5).f0).toList then ((tollgateref08_SameTargets.f k ((rd_T39 x253002 x5).f1) ((rd_T39 x254002 x5).f1)).bind fun t258 => (if t258 = true then (tollgateref08_SameConfig.l0 k (wrap64 (x5 + 1)) x253000 x253001 x253002 x254000 x254001 x254002) else (some false))) else (some false)) else (none)) else (none)) else (tollgateref08_SameConfig.l1 k 0 x253000 x253001 x253002 x254000 x254001 x254002)
def tollgateref08_SameConfig.l1 : Nat → Int → Int → List (S64) → List (S39) → Int → List (S64) → List (S39) → Option (Bool)
 | 0, _, _, _, _, _, _, _ => none
 | k + 1, x6, x253000, x253001, x253002, x254000, x254001, x254002 => if x6 < (x253001.length : Int) then (if 0 ≤ x6 then (if x6 < (x254001.length : Int) then (if (!((((rd_T64 x253001 x6).f0).toList) == (((rd_T64 x254001 x6).f0).toList)) || (!((((rd_T64 x253001 x6).f1).toList) == (((rd_T64 x254001 x6).f1).toList)) || (!((((rd_T64 x253001 x6).f2).toList) == (((rd_T64 x254001 x6).f2).toList))))) = true then (some false) else (tollgateref08_SameConfig.l1 k (wrap64 (x6 + 1)) x253000 x253001 x253002 x254000 x254001 x254002)) else (none)) else (none)) else (some true)
end
def tollgateref08_SameConfig.f (k : Nat) (a0_0 : Int) (l0_1 : List (S64)) (l0_2 : List (S39)) (a1_0 : Int) (l1_1 : List (S64)) (l1_2 : List (S39)) : Option (Bool) := if a0_0 = a1_0 then (if (l0_2.length : Int) = (l1_2.length : Int) then (tollgateref08_SameConfig.j0 k ((l0_1.length : Int) != (l1_1.length : Int)) a0_0 l0_1 l0_2 a1_0 l1_1 l1_2) else (tollgateref08_SameConfig.j0 k true a0_0 l0_1 l0_2 a1_0 l1_1 l1_2)) else (tollgateref08_SameConfig.j0 k true a0_0 l0_1 l0_2 a1_0 l1_1 l1_2)
theorem tollgateref08_SameConfig.mono_l : ∀ k, (∀ y0 y1 y2 y3 y4 y5 y6, LeO (tollgateref08_SameConfig.j0 k y0 y1 y2 y3 y4 y5 y6) (tollgateref08_SameConfig.j0 (k + 1) y0 y1 y2 y3 y4 y5 y6)) ∧ (∀ y0 y1 y2 y3 y4 y5 y6, LeO (tollgateref08_SameConfig.l0 k y0 y1 y2 y3 y4 y5 y6) (tollgateref08_SameConfig.l0 (k + 1) y0 y1 y2 y3 y4 y5 y6)) ∧ (∀ y0 y1 y2 y3 y4 y5 y6, LeO (tollgateref08_SameConfig.l1 k y0 y1 y2 y3 y4 y5 y6) (tollgateref08_SameConfig.l1 (k + 1) y0 y1 y2 y3 y4 y5 y6))
 | 0 => ⟨fun _ _ _ _ _ _ _ r h => by simp [tollgateref08_SameConfig.j0] at h, fun _ _ _ _ _ _ _ r h => by simp [tollgateref08_SameConfig.l0] at h, fun _ _ _ _ _ _ _ r h => by simp [tollgateref08_SameConfig.l1] at h⟩
 | k + 1 => by
  obtain ⟨ih0, ih1, ih2⟩ := tollgateref08_SameConfig.mono_l k;refine ⟨?_, ?_, ?_⟩
  ·intro y0 y1 y2 y3 y4 y5 y6;unfold tollgateref08_SameConfig.j0
   repeat' with_reducible first | exact ih0 _ _ _ _ _ _ _ | exact ih1 _ _ _ _ _ _ _ | exact ih2 _ _ _ _ _ _ _ | exact tollgateref08_SameTargets.mono _ _ _ | exact LeO.refl _ | exact LeO.none _ | refine LeO.ite ?_ ?_ | refine LeO.bind ?_ (fun _ => ?_)
  ·intro y0 y1 y2 y3 y4 y5 y6;unfold tollgateref08_SameConfig.l0
   repeat' with_reducible first | exact ih0 _ _ _ _ _ _ _ | exact ih1 _ _ _ _ _ _ _ | exact ih2 _ _ _ _ _ _ _ | exact tollgateref08_SameTargets.mono _ _ _ | exact LeO.refl _ | exact LeO.none _ | refine LeO.ite ?_ ?_ | refine LeO.bind ?_ (fun _ => ?_)
  intro y0 y1 y2 y3 y4 y5 y6;unfold tollgateref08_SameConfig.l1
  repeat' with_reducible first | exact ih0 _ _ _ _ _ _ _ | exact ih1 _ _ _ _ _ _ _ | exact ih2 _ _ _ _ _ _ _ | exact tollgateref08_SameTargets.mono _ _ _ | exact LeO.refl _ | exact LeO.none _ | refine LeO.ite ?_ ?_ | refine LeO.bind ?_ (fun _ => ?_)
theorem tollgateref08_SameConfig.mono : ∀ a0 a1 a2 a3 a4 a5 k, LeO (tollgateref08_SameConfig.f k a0 a1 a2 a3 a4 a5) (tollgateref08_SameConfig.f (k + 1) a0 a1 a2 a3 a4 a5) := by
 intro a0 a1 a2 a3 a4 a5 k;obtain ⟨ih0, ih1, ih2⟩ := tollgateref08_SameConfig.mono_l k;unfold tollgateref08_SameConfig.f
 repeat' with_reducible first | exact ih0 _ _ _ _ _ _ _ | exact ih1 _ _ _ _ _ _ _ | exact ih2 _ _ _ _ _ _ _ | exact tollgateref08_SameTargets.mono _ _ _ | exact LeO.refl _ | exact LeO.none _ | refine LeO.ite ?_ ?_ | refine LeO.bind ?_ (fun _ => ?_)
set_option maxHeartbeats 8000000 in
set_option maxRecDepth 100000 in
theorem tollgateref08_SameConfig.calls (k : Nat) (a0_0 : Int) (A0_1 : Option Addr) (c0_1 : Nat) (l0_1 : List (S64)) (A0_2 : Option Addr) (c0_2 : Nat) (l0_2 : List (S39)) (a1_0 : Int) (A1_1 : Option Addr) (c1_1 : Nat) (l1_1 : List (S64)) (A1_2 : Option Addr) (c1_2 : Nat) (l1_2 : List (S39)) (r : Bool) (w : World) (hr0_1 : Kd.C k64 w A0_1 l0_1.length l0_1) (hc0_1 : l0_1.length ≤ c0_1) (hr0_2 : Kd.C k39 w A0_2 l0_2.length l0_2) (hc0_2 : l0_2.length ≤ c0_2) (hr1_1 : Kd.C k64 w A1_1 l1_1.length l1_1) (hc1_1 : l1_1.length ≤ c1_1) (hr1_2 : Kd.C k39 w A1_2 l1_2.length l1_2) (hc1_2 : l1_2.length ≤ c1_2) (h : tollgateref08_SameConfig.f k a0_0 l0_1 l0_2 a1_0 l1_1 l1_2 = some r) :
  Calls Tryz.prog 11 #[.agg #[.int .i64 a0_0, .slice A0_1 l0_1.length c0_1, .slice A0_2 l0_2.length c0_2], .agg #[.int .i64 a1_0, .slice A1_1 l1_1.length c1_1, .slice A1_2 l1_2.length c1_2]] w fun e w' => e = .returned (.bool r) ∧ Below w.heap.size w w' := by
 have hu28 := Tryz.underlying28;have hu64 := Tryz.underlying64;have HR0_1 := zN hr0_1;have HC0_1 := zN hc0_1;clear hr0_1 hc0_1;have HR0_2 := zN hr0_2;have HC0_2 := zN hc0_2;clear hr0_2 hc0_2;have HR1_1 := zN hr1_1;have HC1_1 := zN hc1_1;clear hr1_1 hc1_1;have HR1_2 := zN hr1_2;have HC1_2 := zN hc1_2;clear hr1_2 hc1_2;have HB := zN (Below.refl w.heap.size w);have H : (if a0_0 = a1_0 then (if (l0_2.length : Int) = (l1_2.length : Int) then (tollgateref08_SameConfig.j0 k ((l0_1.length : Int) != (l1_1.length : Int)) a0_0 l0_1 l0_2 a1_0 l1_1 l1_2) else (tollgateref08_SameConfig.j0 k true a0_0 l0_1 l0_2 a1_0 l1_1 l1_2)) else (tollgateref08_SameConfig.j0 k true a0_0 l0_1 l0_2 a1_0 l1_1 l1_2)) = some r := h;clear h;have HC3 := zN H;clear H;go_enter Tryz.func11, Tryz.ntmps11;go_upto_region 1 with (first | ((with_reducible refine gate_dst (N := 2) rfl ?_); (try (refine gate_guard (by rfl) ?_; dsimp only)); refine zX #[.int .i64 a0_0, .slice A0_1 l0_1.length c0_1, .slice A0_2 l0_2.length c0_2] 28 rfl ?_; intro gb252 hg w4 hbox hb; have BK252 := zN hbox; have GW252 := zY w (zB HB) hg; have GE252 := zY w (zB HB) hg; replace HB := zk HB hb; clear hb hbox hg) | ((with_reducible refine gate_dst (N := 3) rfl ?_); (try (refine gate_guard (by rfl) ?_; dsimp only)); refine zX #[.int .i64 a1_0, .slice A1_1 l1_1.length c1_1, .slice A1_2 l1_2.length c1_2] 28 rfl ?_; intro gb253 hg w5 hbox hb; have BK253 := zN hbox; have GW253 := zY w (zB1 HB GE252) hg; have GE253 := zY w (zB1 HB GE252) hg; replace HB := zk1 HB GE252 hb; have NB252_253 := zl BK252 hg; have NB253_252 := zl' BK252 hg; replace BK252 := zj BK252 hb; clear hb hbox hg))
 repeat (go_quiet (first | ((with_reducible refine gate_dst (N := 2) rfl ?_); (try (refine gate_guard (by rfl) ?_; dsimp only)); refine zX #[.int .i64 a0_0, .slice A0_1 l0_1.length c0_1, .slice A0_2 l0_2.length c0_2] 28 rfl ?_; intro gb252 hg w4 hbox hb; have BK252 := zN hbox; have GW252 := zY w (zB HB) hg; have GE252 := zY w (zB HB) hg; replace HB := zk HB hb; clear hb hbox hg) | ((with_reducible refine gate_dst (N := 3) rfl ?_); (try (refine gate_guard (by rfl) ?_; dsimp only)); refine zX #[.int .i64 a1_0, .slice A1_1 l1_1.length c1_1, .slice A1_2 l1_2.length c1_2] 28 rfl ?_; intro gb253 hg w5 hbox hb; have BK253 := zN hbox; have GW253 := zY w (zB1 HB GE252) hg; have GE253 := zY w (zB1 HB GE252) hg; replace HB := zk1 HB GE252 hb; have NB252_253 := zl BK252 hg; have NB253_252 := zl' BK252 hg; replace BK252 := zj BK252 hb; clear hb hbox hg)); go_upto_region 1 with (first | ((with_reducible refine gate_dst (N := 2) rfl ?_); (try (refine gate_guard (by rfl) ?_; dsimp only)); refine zX #[.int .i64 a0_0, .slice A0_1 l0_1.length c0_1, .slice A0_2 l0_2.length c0_2] 28 rfl ?_; intro gb252 hg w4 hbox hb; have BK252 := zN hbox; have GW252 := zY w (zB HB) hg; have GE252 := zY w (zB HB) hg; replace HB := zk HB hb; clear hb hbox hg) | ((with_reducible refine gate_dst (N := 3) rfl ?_); (try (refine gate_guard (by rfl) ?_; dsimp only)); refine zX #[.int .i64 a1_0, .slice A1_1 l1_1.length c1_1, .slice A1_2 l1_2.length c1_2] 28 rfl ?_; intro gb253 hg w5 hbox hb; have BK253 := zN hbox; have GW253 := zY w (zB1 HB GE252) hg; have GE253 := zY w (zB1 HB GE252) hg; replace HB := zk1 HB GE252 hb; have NB252_253 := zl BK252 hg; have NB253_252 := zl' BK252 hg; replace BK252 := zj BK252 hb; clear hb hbox hg)))
 (try simp only [Act.put, List.setIfInBounds_toArray, List.set_cons_zero, List.set_cons_succ]);go_cut [29] (fun v29 wc => ∃ (kq : Nat) (x29_2 : Bool), v29 = .bool x29_2 ∧ Aside0 (tollgateref08_SameConfig.j0 kq x29_2 a0_0 l0_1 l0_2 a1_0 l1_1 l1_2 = some r) ∧ Aside0 (kq ≤ k) ∧ Aside0 (wc.heap[gb252]? = some (.cells #[.int .i64 a0_0, (.slice A0_1 l0_1.length c0_1), (.slice A0_2 l0_2.length c0_2)] 28 (0, 0))) ∧ Aside0 (wc.heap[gb253]? = some (.cells #[.int .i64 a1_0, (.slice A1_1 l1_1.length c1_1), (.slice A1_2 l1_2.length c1_2)] 28 (0, 0))) ∧ Aside0 (Below w.heap.size w wc))
 case first =>
  have H := HC3.out;clear HC3;by_cases c6 : a0_0 = a1_0;rotate_left
  ·rw [zn c6] at H;have c6b0 := zb.mpr c6;have c6b1 := bne_iff_ne.mpr c6;(first | rw [c6b0] | (simp only [i64_w, i32_w]; rw [c6b0]) | skip);have H' := zN H;clear H;have hnb14 := NB252_253.out;have hnc14 := NB253_252.out;obtain ⟨hcz15_0, hcz15_1, hcz15_2, hfz15_0, hfz15_1, hfz15_2⟩ := zC3 BK252;obtain ⟨hcz16_0, hcz16_1, hcz16_2, hfz16_0, hfz16_1, hfz16_2⟩ := zC3 BK253;go_wp2
   repeat (go_quiet (fail); try go_wp2)
   go_meet
   case rel => exact ⟨_, (true), zI, H', ⟨by first | omega | exact zh _⟩, ⟨zK BK252⟩, ⟨zK BK253⟩, ⟨zB2 HB GE252 GE253⟩⟩
  rw [zp c6] at H;have c6b0 := beq_iff_eq.mpr c6;have c6b1 := zc.mpr c6;clear c6;(first | rw [c6b0] | (simp only [i64_w, i32_w]; rw [c6b0]) | skip);by_cases c7 : (l0_2.length : Int) = (l1_2.length : Int)
  ·rw [zp c7] at H;have c7b0 := beq_iff_eq.mpr c7;have c7b1 := zc.mpr c7;have c7b2 : (l0_2.length == l1_2.length) = true := by first | simpa using c7 | (simp at c7 ⊢; omega)
   clear c7;have H' := zN H;clear H;have hnb8 := NB252_253.out;have hnc8 := NB253_252.out;obtain ⟨hcz9_0, hcz9_1, hcz9_2, hfz9_0, hfz9_1, hfz9_2⟩ := zC3 BK252;obtain ⟨hcz10_0, hcz10_1, hcz10_2, hfz10_0, hfz10_1, hfz10_2⟩ := zC3 BK253;go_wp2
   repeat (go_quiet (fail); try go_wp2)
   go_meet
   case rel => exact ⟨_, (((l0_1.length : Int) != (l1_1.length : Int))), zI, H', ⟨by first | omega | exact zh _⟩, ⟨zK BK252⟩, ⟨zK BK253⟩, ⟨zB2 HB GE252 GE253⟩⟩
  rw [zn c7] at H;have c7b0 := zb.mpr c7;have c7b1 := bne_iff_ne.mpr c7;have c7b2 : (l0_2.length == l1_2.length) = false := by first | simpa using c7 | (simp at c7 ⊢; omega)
  have H' := zN H;clear H;have hnb11 := NB252_253.out;have hnc11 := NB253_252.out;obtain ⟨hcz12_0, hcz12_1, hcz12_2, hfz12_0, hfz12_1, hfz12_2⟩ := zC3 BK252;obtain ⟨hcz13_0, hcz13_1, hcz13_2, hfz13_0, hfz13_1, hfz13_2⟩ := zC3 BK253;go_wp2
  repeat (go_quiet (fail); try go_wp2)
  go_meet
  case rel => exact ⟨_, (true), zI, H', ⟨by first | omega | exact zh _⟩, ⟨zK BK252⟩, ⟨zK BK253⟩, ⟨zB2 HB GE252 GE253⟩⟩
 case rest =>
  clear HC3;obtain ⟨kq, x29_2, rfl, HA, HJ2, BK252, BK253, HB⟩ := hcut;cases kq with
  | zero => exact absurd HA.out (by simp [tollgateref08_SameConfig.j0])
  | succ kj2 =>
   have H := HA.out;clear HA;simp only [tollgateref08_SameConfig.j0] at H;by_cases c17 : x29_2 = true
   ·subst c17;have H1 := H; rw [zp rfl] at H1;clear H;have H := H1;clear H1;obtain rfl := zo H;go_wp2
    repeat (go_quiet (fail); try go_wp2)
    go_ret;exact ⟨zE, zB2 HB GE252 GE253⟩
   replace c17 := zq.mpr c17;subst c17;have H1 := H; rw [zn (show ¬ (false = true) by decide)] at H1;clear H;have H := H1;clear H1;have H' := zN H;clear H;go_wp2
   repeat (go_quiet (fail); try go_wp2)
   go_loopg [5] kj2 (fun kq v5 w' => ∃ (x5_2 : Int), v5 = .int .i64 x5_2 ∧ Aside0 (tollgateref08_SameConfig.l0 kq x5_2 a0_0 l0_1 l0_2 a1_0 l1_1 l1_2 = some r) ∧ Aside0 (kq ≤ kj2) ∧ Aside0 (w'.heap[gb252]? = some (.cells #[.int .i64 a0_0, (.slice A0_1 l0_1.length c0_1), (.slice A0_2 l0_2.length c0_2)] 28 (0, 0))) ∧ Aside0 (w'.heap[gb253]? = some (.cells #[.int .i64 a1_0, (.slice A1_1 l1_1.length c1_1), (.slice A1_2 l1_2.length c1_2)] 28 (0, 0))) ∧ Aside0 (Below w.heap.size w w'))
   case atStart => exact ⟨(0), zI, H', ⟨zh _⟩, ⟨zK BK252⟩, ⟨zK BK253⟩, ⟨zB2 HB GE252 GE253⟩⟩
   case round =>
    clear H'
    try clear c17
    obtain ⟨x5_2, rfl, HA, HK2, BK252, BK253, HB⟩ := hrel;cases gk with
    | zero => exact absurd HA.out (by simp [tollgateref08_SameConfig.l0])
    | succ k2 =>
     have H := HA.out;clear HA;simp only [tollgateref08_SameConfig.l0] at H;by_cases c18 : x5_2 < (l0_2.length : Int);rotate_left
     ·rw [zn c18] at H;have c18b0 := zf c18;clear c18;have H' := zN H;clear H;have hnb33 := NB252_253.out;have hnc33 := NB253_252.out;obtain ⟨hcz34_0, hcz34_1, hcz34_2, hfz34_0, hfz34_1, hfz34_2⟩ := zC3 BK252;go_wp2
      repeat (go_quiet (fail); try go_wp2)
      go_loopg [6] k2 (fun kq v6 w' => ∃ (x6_3 : Int), v6 = .int .i64 x6_3 ∧ Aside0 (tollgateref08_SameConfig.l1 kq x6_3 a0_0 l0_1 l0_2 a1_0 l1_1 l1_2 = some r) ∧ Aside0 (kq ≤ k2) ∧ Aside0 (w'.heap[gb252]? = some (.cells #[.int .i64 a0_0, (.slice A0_1 l0_1.length c0_1), (.slice A0_2 l0_2.length c0_2)] 28 (0, 0))) ∧ Aside0 (w'.heap[gb253]? = some (.cells #[.int .i64 a1_0, (.slice A1_1 l1_1.length c1_1), (.slice A1_2 l1_2.length c1_2)] 28 (0, 0))) ∧ Aside0 (Below w.heap.size w w'))
      case atStart => exact ⟨(0), zI, H', ⟨zh _⟩, ⟨zK BK252⟩, ⟨zK BK253⟩, ⟨zB2 HB GE252 GE253⟩⟩
      case round =>
       clear H'
       try clear c17
       try clear c18
       try clear c18b0
       try clear hcz34_0
       try clear hcz34_1
       try clear hcz34_2
       try clear hfz34_0
       try clear hfz34_1
       try clear hfz34_2
       obtain ⟨x6_3, rfl, HA, HK3, BK252, BK253, HB⟩ := hrel;cases gk with
       | zero => exact absurd HA.out (by simp [tollgateref08_SameConfig.l1])
       | succ k3 =>
        have H := HA.out;clear HA;simp only [tollgateref08_SameConfig.l1] at H;by_cases c35 : x6_3 < (l0_1.length : Int);rotate_left
        ·rw [zn c35] at H;have c35b0 := zf c35;clear c35;obtain rfl := zo H;have hnb45 := NB252_253.out;have hnc45 := NB253_252.out;obtain ⟨hcz46_0, hcz46_1, hcz46_2, hfz46_0, hfz46_1, hfz46_2⟩ := zC3 BK252;go_wp2
         repeat (go_quiet (fail); try go_wp2)
         go_ret;exact ⟨zE, zB2 HB GE252 GE253⟩
        rw [zp c35] at H;have c35b0 := zt c35;clear c35;by_cases c36 : 0 ≤ x6_3;rotate_left
        ·rw [zn c36] at H;exact absurd H (by simp)
        rw [zp c36] at H;have c36b0 := zt c36;clear c36;by_cases c37 : x6_3 < (l1_1.length : Int);rotate_left
        ·rw [zn c37] at H;exact absurd H (by simp)
        rw [zp c37] at H;have c37b0 := zt c37;clear c37;by_cases c38 : (!((((rd_T64 l0_1 x6_3).f0).toList) == (((rd_T64 l1_1 x6_3).f0).toList)) || (!((((rd_T64 l0_1 x6_3).f1).toList) == (((rd_T64 l1_1 x6_3).f1).toList)) || (!((((rd_T64 l0_1 x6_3).f2).toList) == (((rd_T64 l1_1 x6_3).f2).toList))))) = true
        ·rw [zp c38] at H;have c38b0 : (!((((rd_T64 l0_1 x6_3).f0).toList) == (((rd_T64 l1_1 x6_3).f0).toList)) || (!((((rd_T64 l0_1 x6_3).f1).toList) == (((rd_T64 l1_1 x6_3).f1).toList)) || (!((((rd_T64 l0_1 x6_3).f2).toList) == (((rd_T64 l1_1 x6_3).f2).toList))))) = true := c38;clear c38;obtain rfl := zo H;have hnb39 := NB252_253.out;have hnc39 := NB253_252.out;obtain ⟨hcz40_0, hcz40_1, hcz40_2, hfz40_0, hfz40_1, hfz40_2⟩ := zC3 BK252;have p259 : 0 ≤ (x6_3 : Int) := zd zS;have q259 : x6_3 < (l0_1.length : Int) := zd zS;obtain ⟨ad259, e259, hx259_0, hx259_1, hx259_2⟩ := at_T64 HR0_1.out x6_3 p259 q259;cases e259;replace hx259_0 := (HB.out.cell (zw w _ hx259_0)).trans hx259_0;replace hx259_1 := (HB.out.cell (zw w _ hx259_1)).trans hx259_1;replace hx259_2 := (HB.out.cell (zw w _ hx259_2)).trans hx259_2;replace p259 := zu p259;replace q259 := zu q259;obtain ⟨hcz41_0, hcz41_1, hcz41_2, hfz41_0, hfz41_1, hfz41_2⟩ := zC3 BK253;have p260 : 0 ≤ (x6_3 : Int) := zd zS;have q260 : x6_3 < (l1_1.length : Int) := zd zS;obtain ⟨ad260, e260, hx260_0, hx260_1, hx260_2⟩ := at_T64 HR1_1.out x6_3 p260 q260;cases e260;replace hx260_0 := (HB.out.cell (zw w _ hx260_0)).trans hx260_0;replace hx260_1 := (HB.out.cell (zw w _ hx260_1)).trans hx260_1;replace hx260_2 := (HB.out.cell (zw w _ hx260_2)).trans hx260_2;replace p260 := zu p260;replace q260 := zu q260;go_wp2
         repeat (go_quiet (fail); try go_wp2)
         go_ret;exact ⟨zE, zB2 HB GE252 GE253⟩
        rw [zn c38] at H;have c38b0 : (!((((rd_T64 l0_1 x6_3).f0).toList) == (((rd_T64 l1_1 x6_3).f0).toList)) || (!((((rd_T64 l0_1 x6_3).f1).toList) == (((rd_T64 l1_1 x6_3).f1).toList)) || (!((((rd_T64 l0_1 x6_3).f2).toList) == (((rd_T64 l1_1 x6_3).f2).toList))))) = false := by simpa using c38
        clear c38;have H' := zN H;clear H;have hnb42 := NB252_253.out;have hnc42 := NB253_252.out;obtain ⟨hcz43_0, hcz43_1, hcz43_2, hfz43_0, hfz43_1, hfz43_2⟩ := zC3 BK252;have p259 : 0 ≤ (x6_3 : Int) := zd zS;have q259 : x6_3 < (l0_1.length : Int) := zd zS;obtain ⟨ad259, e259, hx259_0, hx259_1, hx259_2⟩ := at_T64 HR0_1.out x6_3 p259 q259;cases e259;replace hx259_0 := (HB.out.cell (zw w _ hx259_0)).trans hx259_0;replace hx259_1 := (HB.out.cell (zw w _ hx259_1)).trans hx259_1;replace hx259_2 := (HB.out.cell (zw w _ hx259_2)).trans hx259_2;replace p259 := zu p259;replace q259 := zu q259;obtain ⟨hcz44_0, hcz44_1, hcz44_2, hfz44_0, hfz44_1, hfz44_2⟩ := zC3 BK253;have p260 : 0 ≤ (x6_3 : Int) := zd zS;have q260 : x6_3 < (l1_1.length : Int) := zd zS;obtain ⟨ad260, e260, hx260_0, hx260_1, hx260_2⟩ := at_T64 HR1_1.out x6_3 p260 q260;cases e260;replace hx260_0 := (HB.out.cell (zw w _ hx260_0)).trans hx260_0;replace hx260_1 := (HB.out.cell (zw w _ hx260_1)).trans hx260_1;replace hx260_2 := (HB.out.cell (zw w _ hx260_2)).trans hx260_2;replace p260 := zu p260;replace q260 := zu q260;go_wp2
        repeat (go_quiet (fail); try go_wp2)
        go_roundg k3
        case measure => have := HJ2.out; have := HK2.out; have := HK3.out; omega
        case rel => exact ⟨(wrap64 (x6_3 + 1)), zI, H', ⟨by have := HJ2.out; have := HK2.out; have := HK3.out; omega⟩, ⟨zK BK252⟩, ⟨zK BK253⟩, ⟨zB2 HB GE252 GE253⟩⟩
     rw [zp c18] at H;have c18b0 := zt c18;clear c18;by_cases c19 : 0 ≤ x5_2;rotate_left
     ·rw [zn c19] at H;exact absurd H (by simp)
     rw [zp c19] at H;have c19b0 := zt c19;clear c19;by_cases c20 : x5_2 < (l1_2.length : Int);rotate_left
     ·rw [zn c20] at H;exact absurd H (by simp)
     rw [zp c20] at H;have c20b0 := zt c20;clear c20;by_cases c21 : ((rd_T39 l0_2 x5_2).f0).toList = ((rd_T39 l1_2 x5_2).f0).toList;rotate_left
     ·rw [zn c21] at H;have c21b0 := zb.mpr c21;have c21b1 := bne_iff_ne.mpr c21;obtain rfl := zo H;have hnb30 := NB252_253.out;have hnc30 := NB253_252.out;obtain ⟨hcz31_0, hcz31_1, hcz31_2, hfz31_0, hfz31_1, hfz31_2⟩ := zC3 BK252;have p254 : 0 ≤ (x5_2 : Int) := zd zS;have q254 : x5_2 < (l0_2.length : Int) := zd zS;obtain ⟨ad254, A254_1, c254_1, e254, hx254_0, hx254_1, hl254_1, hi254_1⟩ := at_T39 HR0_2.out x5_2 p254 q254;cases e254;replace hx254_0 := (HB.out.cell (zw w _ hx254_0)).trans hx254_0;replace hx254_1 := (HB.out.cell (zw w _ hx254_1)).trans hx254_1;have HR254_1 := zN hi254_1;have HC254_1 := zN hl254_1;clear hi254_1 hl254_1;replace p254 := zu p254;replace q254 := zu q254;obtain ⟨hcz32_0, hcz32_1, hcz32_2, hfz32_0, hfz32_1, hfz32_2⟩ := zC3 BK253;have p255 : 0 ≤ (x5_2 : Int) := zd zS;have q255 : x5_2 < (l1_2.length : Int) := zd zS;obtain ⟨ad255, A255_1, c255_1, e255, hx255_0, hx255_1, hl255_1, hi255_1⟩ := at_T39 HR1_2.out x5_2 p255 q255;cases e255;replace hx255_0 := (HB.out.cell (zw w _ hx255_0)).trans hx255_0;replace hx255_1 := (HB.out.cell (zw w _ hx255_1)).trans hx255_1;have HR255_1 := zN hi255_1;have HC255_1 := zN hl255_1;clear hi255_1 hl255_1;replace p255 := zu p255;replace q255 := zu q255;go_wp2
      repeat (go_quiet (fail); try go_wp2)
      go_ret;exact ⟨zE, zB2 HB GE252 GE253⟩
     rw [zp c21] at H;have c21b0 := beq_iff_eq.mpr c21;have c21b1 := zc.mpr c21;clear c21;obtain ⟨t258, A22, H⟩ := zA H;(try dsimp only at H);by_cases c23 : t258 = true
     ·subst c23;have H1 := H; rw [zp rfl] at H1;clear H;have H := H1;clear H1;have H' := zN H;clear H;have hnb24 := NB252_253.out;have hnc24 := NB253_252.out;obtain ⟨hcz25_0, hcz25_1, hcz25_2, hfz25_0, hfz25_1, hfz25_2⟩ := zC3 BK252;have p254 : 0 ≤ (x5_2 : Int) := zd zS;have q254 : x5_2 < (l0_2.length : Int) := zd zS;obtain ⟨ad254, A254_1, c254_1, e254, hx254_0, hx254_1, hl254_1, hi254_1⟩ := at_T39 HR0_2.out x5_2 p254 q254;cases e254;replace hx254_0 := (HB.out.cell (zw w _ hx254_0)).trans hx254_0;replace hx254_1 := (HB.out.cell (zw w _ hx254_1)).trans hx254_1;have HR254_1 := zN hi254_1;have HC254_1 := zN hl254_1;clear hi254_1 hl254_1;replace p254 := zu p254;replace q254 := zu q254;obtain ⟨hcz26_0, hcz26_1, hcz26_2, hfz26_0, hfz26_1, hfz26_2⟩ := zC3 BK253;have p255 : 0 ≤ (x5_2 : Int) := zd zS;have q255 : x5_2 < (l1_2.length : Int) := zd zS;obtain ⟨ad255, A255_1, c255_1, e255, hx255_0, hx255_1, hl255_1, hi255_1⟩ := at_T39 HR1_2.out x5_2 p255 q255;cases e255;replace hx255_0 := (HB.out.cell (zw w _ hx255_0)).trans hx255_0;replace hx255_1 := (HB.out.cell (zw w _ hx255_1)).trans hx255_1;have HR255_1 := zN hi255_1;have HC255_1 := zN hl255_1;clear hi255_1 hl255_1;replace p255 := zu p255;replace q255 := zu q255;have p256 : 0 ≤ (x5_2 : Int) := zd zS;have q256 : x5_2 < (l0_2.length : Int) := zd zS;obtain ⟨ad256, A256_1, c256_1, e256, hx256_0, hx256_1, hl256_1, hi256_1⟩ := at_T39 HR0_2.out x5_2 p256 q256;obtain rfl : ad254 = ad256 := (by injection e256);replace hx256_0 := (HB.out.cell (zw w _ hx256_0)).trans hx256_0;replace hx256_1 := (HB.out.cell (zw w _ hx256_1)).trans hx256_1;have HR256_1 := zN hi256_1;have HC256_1 := zN hl256_1;clear hi256_1 hl256_1;replace p256 := zu p256;replace q256 := zu q256;have ea_ := zo (hx254_1.symm.trans hx256_1);injection ea_ with ea_ en_ ec_
      subst ea_;subst ec_;clear en_;have p257 : 0 ≤ (x5_2 : Int) := zd zS;have q257 : x5_2 < (l1_2.length : Int) := zd zS;obtain ⟨ad257, A257_1, c257_1, e257, hx257_0, hx257_1, hl257_1, hi257_1⟩ := at_T39 HR1_2.out x5_2 p257 q257;obtain rfl : ad255 = ad257 := (by injection e257);replace hx257_0 := (HB.out.cell (zw w _ hx257_0)).trans hx257_0;replace hx257_1 := (HB.out.cell (zw w _ hx257_1)).trans hx257_1;have HR257_1 := zN hi257_1;have HC257_1 := zN hl257_1;clear hi257_1 hl257_1;replace p257 := zu p257;replace q257 := zu q257;have ea_ := zo (hx255_1.symm.trans hx257_1);injection ea_ with ea_ en_ ec_
      subst ea_;subst ec_;clear en_;go_wp2_with (first | (go_at_call 21; (with_reducible refine (tollgateref08_SameTargets.calls k2 _ _ ((rd_T39 l0_2 x5_2).f1) _ _ ((rd_T39 l1_2 x5_2).f1) true _ ?side1 ?side2 ?side3 ?side4 A22.out).mono ?_); (case side1 => exact zs (Kd.C_below HR256_1.out HB.out)); (case side2 => exact HC256_1.out); (case side3 => exact zs (Kd.C_below HR257_1.out HB.out)); (case side4 => exact HC257_1.out); rintro e w' ⟨rfl, ⟨nd, rfl⟩⟩; (try first | exact ⟨rfl, _, World.drewN_drewN _ _ _⟩ | exact ⟨rfl, _, Eq.trans (World.drewN_drewN _ _ _) (congrArg (World.drewN _) (Nat.add_assoc _ _ _))⟩)))
      repeat (go_quiet (first | (go_at_call 21; (with_reducible refine (tollgateref08_SameTargets.calls k2 _ _ ((rd_T39 l0_2 x5_2).f1) _ _ ((rd_T39 l1_2 x5_2).f1) true _ ?side1 ?side2 ?side3 ?side4 A22.out).mono ?_); (case side1 => exact zs (Kd.C_below HR256_1.out HB.out)); (case side2 => exact HC256_1.out); (case side3 => exact zs (Kd.C_below HR257_1.out HB.out)); (case side4 => exact HC257_1.out); rintro e w' ⟨rfl, ⟨nd, rfl⟩⟩; (try first | exact ⟨rfl, _, World.drewN_drewN _ _ _⟩ | exact ⟨rfl, _, Eq.trans (World.drewN_drewN _ _ _) (congrArg (World.drewN _) (Nat.add_assoc _ _ _))⟩))); try go_wp2_with (first | (go_at_call 21; (with_reducible refine (tollgateref08_SameTargets.calls k2 _ _ ((rd_T39 l0_2 x5_2).f1) _ _ ((rd_T39 l1_2 x5_2).f1) true _ ?side1 ?side2 ?side3 ?side4 A22.out).mono ?_); (case side1 => exact zs (Kd.C_below HR256_1.out HB.out)); (case side2 => exact HC256_1.out); (case side3 => exact zs (Kd.C_below HR257_1.out HB.out)); (case side4 => exact HC257_1.out); rintro e w' ⟨rfl, ⟨nd, rfl⟩⟩; (try first | exact ⟨rfl, _, World.drewN_drewN _ _ _⟩ | exact ⟨rfl, _, Eq.trans (World.drewN_drewN _ _ _) (congrArg (World.drewN _) (Nat.add_assoc _ _ _))⟩))))
      go_roundg k2
      case measure => have := HJ2.out; have := HK2.out; omega
      case rel => exact ⟨(wrap64 (x5_2 + 1)), zI, H', ⟨by have := HJ2.out; have := HK2.out; omega⟩, ⟨zK BK252⟩, ⟨zK BK253⟩, ⟨zB2 HB GE252 GE253⟩⟩
     replace c23 := zq.mpr c23;subst c23;have H1 := H; rw [zn (show ¬ (false = true) by decide)] at H1;clear H;have H := H1;clear H1;obtain rfl := zo H;have hnb27 := NB252_253.out;have hnc27 := NB253_252.out;obtain ⟨hcz28_0, hcz28_1, hcz28_2, hfz28_0, hfz28_1, hfz28_2⟩ := zC3 BK252;have p254 : 0 ≤ (x5_2 : Int) := zd zS;have q254 : x5_2 < (l0_2.length : Int) := zd zS;obtain ⟨ad254, A254_1, c254_1, e254, hx254_0, hx254_1, hl254_1, hi254_1⟩ := at_T39 HR0_2.out x5_2 p254 q254;cases e254;replace hx254_0 := (HB.out.cell (zw w _ hx254_0)).trans hx254_0;replace hx254_1 := (HB.out.cell (zw w _ hx254_1)).trans hx254_1;have HR254_1 := zN hi254_1;have HC254_1 := zN hl254_1;clear hi254_1 hl254_1;replace p254 := zu p254;replace q254 := zu q254;obtain ⟨hcz29_0, hcz29_1, hcz29_2, hfz29_0, hfz29_1, hfz29_2⟩ := zC3 BK253;have p255 : 0 ≤ (x5_2 : Int) := zd zS;have q255 : x5_2 < (l1_2.length : Int) := zd zS;obtain ⟨ad255, A255_1, c255_1, e255, hx255_0, hx255_1, hl255_1, hi255_1⟩ := at_T39 HR1_2.out x5_2 p255 q255;cases e255;replace hx255_0 := (HB.out.cell (zw w _ hx255_0)).trans hx255_0;replace hx255_1 := (HB.out.cell (zw w _ hx255_1)).trans hx255_1;have HR255_1 := zN hi255_1;have HC255_1 := zN hl255_1;clear hi255_1 hl255_1;replace p255 := zu p255;replace q255 := zu q255;have p256 : 0 ≤ (x5_2 : Int) := zd zS;have q256 : x5_2 < (l0_2.length : Int) := zd zS;obtain ⟨ad256, A256_1, c256_1, e256, hx256_0, hx256_1, hl256_1, hi256_1⟩ := at_T39 HR0_2.out x5_2 p256 q256;obtain rfl : ad254 = ad256 := (by injection e256);replace hx256_0 := (HB.out.cell (zw w _ hx256_0)).trans hx256_0;replace hx256_1 := (HB.out.cell (zw w _ hx256_1)).trans hx256_1;have HR256_1 := zN hi256_1;have HC256_1 := zN hl256_1;clear hi256_1 hl256_1;replace p256 := zu p256;replace q256 := zu q256;have ea_ := zo (hx254_1.symm.trans hx256_1);injection ea_ with ea_ en_ ec_
     subst ea_;subst ec_;clear en_;have p257 : 0 ≤ (x5_2 : Int) := zd zS;have q257 : x5_2 < (l1_2.length : Int) := zd zS;obtain ⟨ad257, A257_1, c257_1, e257, hx257_0, hx257_1, hl257_1, hi257_1⟩ := at_T39 HR1_2.out x5_2 p257 q257;obtain rfl : ad255 = ad257 := (by injection e257);replace hx257_0 := (HB.out.cell (zw w _ hx257_0)).trans hx257_0;replace hx257_1 := (HB.out.cell (zw w _ hx257_1)).trans hx257_1;have HR257_1 := zN hi257_1;have HC257_1 := zN hl257_1;clear hi257_1 hl257_1;replace p257 := zu p257;replace q257 := zu q257;have ea_ := zo (hx255_1.symm.trans hx257_1);injection ea_ with ea_ en_ ec_
     subst ea_;subst ec_;clear en_;go_wp2_with (first | (go_at_call 21; (with_reducible refine (tollgateref08_SameTargets.calls k2 _ _ ((rd_T39 l0_2 x5_2).f1) _ _ ((rd_T39 l1_2 x5_2).f1) false _ ?side1 ?side2 ?side3 ?side4 A22.out).mono ?_); (case side1 => exact zs (Kd.C_below HR256_1.out HB.out)); (case side2 => exact HC256_1.out); (case side3 => exact zs (Kd.C_below HR257_1.out HB.out)); (case side4 => exact HC257_1.out); rintro e w' ⟨rfl, ⟨nd, rfl⟩⟩; (try first | exact ⟨rfl, _, World.drewN_drewN _ _ _⟩ | exact ⟨rfl, _, Eq.trans (World.drewN_drewN _ _ _) (congrArg (World.drewN _) (Nat.add_assoc _ _ _))⟩)))
     repeat (go_quiet (first | (go_at_call 21; (with_reducible refine (tollgateref08_SameTargets.calls k2 _ _ ((rd_T39 l0_2 x5_2).f1) _ _ ((rd_T39 l1_2 x5_2).f1) false _ ?side1 ?side2 ?side3 ?side4 A22.out).mono ?_); (case side1 => exact zs (Kd.C_below HR256_1.out HB.out)); (case side2 => exact HC256_1.out); (case side3 => exact zs (Kd.C_below HR257_1.out HB.out)); (case side4 => exact HC257_1.out); rintro e w' ⟨rfl, ⟨nd, rfl⟩⟩; (try first | exact ⟨rfl, _, World.drewN_drewN _ _ _⟩ | exact ⟨rfl, _, Eq.trans (World.drewN_drewN _ _ _) (congrArg (World.drewN _) (Nat.add_assoc _ _ _))⟩))); try go_wp2_with (first | (go_at_call 21; (with_reducible refine (tollgateref08_SameTargets.calls k2 _ _ ((rd_T39 l0_2 x5_2).f1) _ _ ((rd_T39 l1_2 x5_2).f1) false _ ?side1 ?side2 ?side3 ?side4 A22.out).mono ?_); (case side1 => exact zs (Kd.C_below HR256_1.out HB.out)); (case side2 => exact HC256_1.out); (case side3 => exact zs (Kd.C_below HR257_1.out HB.out)); (case side4 => exact HC257_1.out); rintro e w' ⟨rfl, ⟨nd, rfl⟩⟩; (try first | exact ⟨rfl, _, World.drewN_drewN _ _ _⟩ | exact ⟨rfl, _, Eq.trans (World.drewN_drewN _ _ _) (congrArg (World.drewN _) (Nat.add_assoc _ _ _))⟩))))
     go_ret;exact ⟨zE, zB2 HB GE252 GE253⟩

end Go.Proofs.YtahaihnlkohhgaaGreatDoor.S
end
section
namespace Go.Proofs.YtahaihnlkohhgaaGreatDoor.S
open Go.RowKit Go.Proofs.YtahaihnlkohhgaaGreatDoorW.PrintWords Go.Proofs.YtahaihnlkohhgaaGreatDoorW.PrintLast Go.Proofs.YtahaihnlkohhgaaGreatDoorW.PrintMore
attribute [local go_sem] max2_int min2_int max_two min_two max_three min_three max_four min_four
attribute [local go_sem] fbin_eql fbin_neq fbin_lss fbin_leq fbin_gtr fbin_geq frun_add frun_sub frun_mul frun_quo frun_store fun_neg fcv_int fcv_same fb41 fb85
set_option linter.unusedVariables false
set_option linter.unusedSimpArgs false
def tollgatelaw10_short.l0 : Nat → Int → Int → Int → List (S64) → List (S39) → Option (Bool)
  | 0, _, _, _, _, _ => none
  | k + 1, x3, x4, x103000, x103001, x103002 => if x4 < (x103002.length : Int) then (if x3 ≤ 200 then (if 0 ≤ x4 then (tollgatelaw10_short.l0 k (wrap64 (x3 + (1 + (mn (((rd_T39 x103002 x4).f1).length : Int) 1000)))) (wrap64 (x4 + 1)) x103000 x103001 x103002) else (none)) else (some false)) else (if x3 ≤ 200 then (some (decide ((x103001.length : Int) ≤ 200))) else (some false))
def tollgatelaw10_short.f (k : Nat) (a0_0 : Int) (l0_1 : List (S64)) (l0_2 : List (S39)) : Option (Bool) := tollgatelaw10_short.l0 k 0 0 a0_0 l0_1 l0_2
theorem tollgatelaw10_short.mono_l : ∀ k, (∀ y0 y1 y2 y3 y4, LeO (tollgatelaw10_short.l0 k y0 y1 y2 y3 y4) (tollgatelaw10_short.l0 (k + 1) y0 y1 y2 y3 y4))
  | 0 => fun _ _ _ _ _ r h => by simp [tollgatelaw10_short.l0] at h
  | k + 1 => by
    have ih0 := tollgatelaw10_short.mono_l k;intro y0 y1 y2 y3 y4;unfold tollgatelaw10_short.l0
    repeat' with_reducible first | exact ih0 _ _ _ _ _ | exact LeO.refl _ | exact LeO.none _ | refine LeO.ite ?_ ?_ | refine LeO.bind ?_ (fun _ => ?_)
theorem tollgatelaw10_short.mono : ∀ a0 a1 a2 k, LeO (tollgatelaw10_short.f k a0 a1 a2) (tollgatelaw10_short.f (k + 1) a0 a1 a2) := by
  intro a0 a1 a2 k;have ih0 := tollgatelaw10_short.mono_l k;unfold tollgatelaw10_short.f
  repeat' with_reducible first | exact ih0 _ _ _ _ _ | exact LeO.refl _ | exact LeO.none _ | refine LeO.ite ?_ ?_ | refine LeO.bind ?_ (fun _ => ?_)
set_option maxHeartbeats 8000000 in
set_option maxRecDepth 100000 in
theorem tollgatelaw10_short.calls (k : Nat) (a0_0 : Int) (A0_1 : Option Addr) (c0_1 : Nat) (l0_1 : List (S64)) (A0_2 : Option Addr) (c0_2 : Nat) (l0_2 : List (S39)) (r : Bool) (w : World) (hr0_1 : Kd.C k64 w A0_1 l0_1.length l0_1) (hc0_1 : l0_1.length ≤ c0_1) (hr0_2 : Kd.C k39 w A0_2 l0_2.length l0_2) (hc0_2 : l0_2.length ≤ c0_2) (h : tollgatelaw10_short.f k a0_0 l0_1 l0_2 = some r) :
    Calls Tryz.prog 5 #[.agg #[.int .i64 a0_0, .slice A0_1 l0_1.length c0_1, .slice A0_2 l0_2.length c0_2]] w fun e w' => e = .returned (.bool r) ∧ Below w.heap.size w w' := by
  have hu28 := Tryz.underlying28;have HR0_1 := zN hr0_1;have HC0_1 := zN hc0_1;clear hr0_1 hc0_1;have HR0_2 := zN hr0_2;have HC0_2 := zN hc0_2;clear hr0_2 hc0_2;have HB := zN (Below.refl w.heap.size w);have H : (tollgatelaw10_short.l0 k 0 0 a0_0 l0_1 l0_2) = some r := h;clear h;have H' := zN H;clear H;go_enter Tryz.func5, Tryz.ntmps5;go_wp2_with (first | ((with_reducible refine gate_dst (N := 1) rfl ?_); (try (refine gate_guard (by rfl) ?_; dsimp only)); refine zX #[.int .i64 a0_0, .slice A0_1 l0_1.length c0_1, .slice A0_2 l0_2.length c0_2] 28 rfl ?_; intro gb102 hg w2 hbox hb; have BK102 := zN hbox; have GW102 := zY w (zB HB) hg; have GE102 := zY w (zB HB) hg; replace HB := zk HB hb; clear hb hbox hg));go_loopg [3, 4] k (fun kq v3 v4 w' => ∃ (x3_1 : Int) (x4_1 : Int), v3 = .int .i64 x3_1 ∧ v4 = .int .i64 x4_1 ∧ Aside0 (tollgatelaw10_short.l0 kq x3_1 x4_1 a0_0 l0_1 l0_2 = some r) ∧ Aside0 (kq ≤ k) ∧ Aside0 (w'.heap[gb102]? = some (.cells #[.int .i64 a0_0, (.slice A0_1 l0_1.length c0_1), (.slice A0_2 l0_2.length c0_2)] 28 (0, 0))) ∧ Aside0 (Below w.heap.size w w'))
  case atStart => exact ⟨(0), (0), zI, zI, H', ⟨zh _⟩, ⟨zK BK102⟩, ⟨zB1 HB GE102⟩⟩
  case round =>
    clear H'
    try clear p2
    obtain ⟨x3_1, x4_1, rfl, rfl, HA, HK1, BK102, HB⟩ := hrel;cases gk with
    | zero => exact absurd HA.out (by simp [tollgatelaw10_short.l0])
    | succ k1 =>
      have H := HA.out;clear HA;simp only [tollgatelaw10_short.l0] at H;by_cases c3 : x4_1 < (l0_2.length : Int);rotate_left
      · rw [zn c3] at H;have c3b0 := zf c3;clear c3;by_cases c9 : x3_1 ≤ 200
        · rw [zp c9] at H;have c9b0 := zt c9;clear c9;obtain rfl := zo H;obtain ⟨hcz10_0, hcz10_1, hcz10_2, hfz10_0, hfz10_1, hfz10_2⟩ := zC3 BK102;go_wp2;go_ret;exact ⟨zE, zB1 HB GE102⟩
        rw [zn c9] at H;have c9b0 := zf c9;clear c9;obtain rfl := zo H;obtain ⟨hcz11_0, hcz11_1, hcz11_2, hfz11_0, hfz11_1, hfz11_2⟩ := zC3 BK102;go_wp2;go_ret;exact ⟨zE, zB1 HB GE102⟩
      rw [zp c3] at H;have c3b0 := zt c3;clear c3;by_cases c4 : x3_1 ≤ 200;rotate_left
      · rw [zn c4] at H;have c4b0 := zf c4;clear c4;obtain rfl := zo H;obtain ⟨hcz8_0, hcz8_1, hcz8_2, hfz8_0, hfz8_1, hfz8_2⟩ := zC3 BK102;go_wp2;go_ret;exact ⟨zE, zB1 HB GE102⟩
      rw [zp c4] at H;have c4b0 := zt c4;clear c4;by_cases c5 : 0 ≤ x4_1;rotate_left
      · rw [zn c5] at H;exact absurd H (by simp)
      rw [zp c5] at H;have c5b0 := zt c5;clear c5;obtain ⟨ji6, hji6⟩ : ∃ j_ : Int, (mn (((rd_T39 l0_2 x4_1).f1).length : Int) 1000) = j_ := ⟨_, rfl⟩;replace H : (tollgatelaw10_short.l0 k1 (wrap64 (x3_1 + (1 + (ji6)))) (wrap64 (x4_1 + 1)) a0_0 l0_1 l0_2) = some r := by first | (rw [hji6] at H; exact H) | (simp only [hji6] at H ⊢; exact H)
      have hji6_ : (if 1000 < (((rd_T39 l0_2 x4_1).f1).length : Int) then 1000 else (((rd_T39 l0_2 x4_1).f1).length : Int)) = ji6 := hji6;have H' := zN H;clear H;obtain ⟨hcz7_0, hcz7_1, hcz7_2, hfz7_0, hfz7_1, hfz7_2⟩ := zC3 BK102;have p103 : 0 ≤ (x4_1 : Int) := zd zS;have q103 : x4_1 < (l0_2.length : Int) := zd zS;obtain ⟨ad103, A103_1, c103_1, e103, hx103_0, hx103_1, hl103_1, hi103_1⟩ := at_T39 HR0_2.out x4_1 p103 q103;cases e103;replace hx103_0 := (HB.out.cell (zw w _ hx103_0)).trans hx103_0;replace hx103_1 := (HB.out.cell (zw w _ hx103_1)).trans hx103_1;have HR103_1 := zN hi103_1;have HC103_1 := zN hl103_1;clear hi103_1 hl103_1;replace p103 := zu p103;replace q103 := zu q103;go_wp2;go_roundg k1
      case measure => have := HK1.out; omega
      case rel => exact ⟨(wrap64 (x3_1 + (1 + (ji6)))), (wrap64 (x4_1 + 1)), (by first | rfl | (simp; done) | (simp only [← hji6] <;> (first | rfl | simp)) | (simp [*]; done)), zI, H', ⟨by have := HK1.out; omega⟩, ⟨zK BK102⟩, ⟨zB1 HB GE102⟩⟩

-- NOT PRINTED: function 12 (plane_Plane_Config)

-- NOT PRINTED: function 85 (math_Float64frombits)

def math_Abs.f (a0 : Nat) : Option (Nat) := some ((Go.bits .andNot .u64 (a0 : Int) 9223372036854775808 : Int).toNat)
set_option maxHeartbeats 8000000 in
set_option maxRecDepth 100000 in
theorem math_Abs.calls (a0 : Nat) (r : Nat) (w : World) (h : math_Abs.f a0 = some r) :
    Calls Tryz.prog 60 #[.float .f64 a0] w fun e w' => e = .returned (.float .f64 r) ∧ Drawn0 w w' := by
  have H : (some ((Go.bits .andNot .u64 (a0 : Int) 9223372036854775808 : Int).toNat)) = some r := h;clear h;obtain rfl := zo H;go_enter Tryz.func60, Tryz.ntmps60;go_wp2;go_ret;exact ⟨zI, zD⟩

def math_IsInf.f (a0 : Nat) (a1 : Int) : Option (Bool) := if a1 = 0 then ((math_Abs.f a0).bind fun t262 => (some (fgtr t262 9218868437227405311))) else (if a1 < 0 then (some (fgtr (fneg a0) 9218868437227405311)) else (some (fgtr a0 9218868437227405311)))
set_option maxHeartbeats 8000000 in
set_option maxRecDepth 100000 in
theorem math_IsInf.calls (a0 : Nat) (a1 : Int) (r : Bool) (w : World) (h : math_IsInf.f a0 a1 = some r) :
    Calls Tryz.prog 43 #[.float .f64 a0, .int .i64 a1] w fun e w' => e = .returned (.bool r) ∧ Drawn0 w w' := by
  have H : (if a1 = 0 then ((math_Abs.f a0).bind fun t262 => (some (fgtr t262 9218868437227405311))) else (if a1 < 0 then (some (fgtr (fneg a0) 9218868437227405311)) else (some (fgtr a0 9218868437227405311)))) = some r := h;clear h;by_cases c3 : a1 = 0
  · rw [zp c3] at H;have c3b0 := beq_iff_eq.mpr c3;have c3b1 := zc.mpr c3;clear c3;obtain ⟨t262, A4, H⟩ := zA H;(try dsimp only at H);obtain rfl := zo H;go_enter Tryz.func43, Tryz.ntmps43;go_wp2_with (first | ((with_reducible refine gate_callee (f := 60) rfl ?_); refine zg (some 8) Tryz.func60 #[.float .f64 a0] ?_; (with_reducible refine (math_Abs.calls a0 t262 _ A4.out).mono ?_); rintro e w' ⟨rfl, ⟨nd, rfl⟩⟩; refine ⟨_, rfl, ?_⟩));go_ret;exact ⟨zI, zD⟩
  rw [zn c3] at H;have c3b0 := zb.mpr c3;have c3b1 := bne_iff_ne.mpr c3;by_cases c5 : a1 < 0
  · rw [zp c5] at H;have c5b0 := zt c5;clear c5;obtain rfl := zo H;go_enter Tryz.func43, Tryz.ntmps43;go_wp2;go_ret;exact ⟨zI, zD⟩
  rw [zn c5] at H;have c5b0 := zf c5;clear c5;obtain rfl := zo H;go_enter Tryz.func43, Tryz.ntmps43;go_wp2;go_ret;exact ⟨zI, zD⟩

def plane_counts.f (a0 : Nat) (a1 : Nat) : Option (Nat) := if (fgtr a0 0) = true then ((math_IsInf.f a0 1).bind fun t263 => (if t263 = true then (some 0) else (if (fmulOk a0 a1) = true then (some (fmul a0 a1)) else (none)))) else (some 0)
set_option maxHeartbeats 8000000 in
set_option maxRecDepth 100000 in
theorem plane_counts.calls (a0 : Nat) (a1 : Nat) (r : Nat) (w : World) (h : plane_counts.f a0 a1 = some r) :
    Calls Tryz.prog 44 #[.float .f64 a0, .float .f64 a1] w fun e w' => e = .returned (.float .f64 r) ∧ Drawn0 w w' := by
  have H : (if (fgtr a0 0) = true then ((math_IsInf.f a0 1).bind fun t263 => (if t263 = true then (some 0) else (if (fmulOk a0 a1) = true then (some (fmul a0 a1)) else (none)))) else (some 0)) = some r := h;clear h;by_cases c3 : (fgtr a0 0) = true;rotate_left
  · rw [zn c3] at H;have c3b0 : (fgtr a0 0) = false := by simpa using c3
    clear c3;obtain rfl := zo H;go_enter Tryz.func44, Tryz.ntmps44;go_wp2;go_ret;exact ⟨zI, zD⟩
  rw [zp c3] at H;have c3b0 : (fgtr a0 0) = true := c3;clear c3;obtain ⟨t263, A4, H⟩ := zA H;(try dsimp only at H);by_cases c5 : t263 = true
  · subst c5;have H1 := H; rw [zp rfl] at H1;clear H;have H := H1;clear H1;obtain rfl := zo H;go_enter Tryz.func44, Tryz.ntmps44;go_wp2_with (first | (go_at_call 43; (with_reducible refine (math_IsInf.calls a0 1 true _ A4.out).mono ?_); rintro e w' ⟨rfl, ⟨nd, rfl⟩⟩));go_ret;exact ⟨zI, zD⟩
  replace c5 := zq.mpr c5;subst c5;have H1 := H; rw [zn (show ¬ (false = true) by decide)] at H1;clear H;have H := H1;clear H1;by_cases c6 : (fmulOk a0 a1) = true
  · rw [zp c6] at H;have c6b0 := zu c6;have c6b1 := zt c6;clear c6;obtain rfl := zo H;go_enter Tryz.func44, Tryz.ntmps44;go_wp2_with (first | (go_at_call 43; (with_reducible refine (math_IsInf.calls a0 1 false _ A4.out).mono ?_); rintro e w' ⟨rfl, ⟨nd, rfl⟩⟩));go_ret;exact ⟨zI, zD⟩
  rw [zn c6] at H;exact absurd H (by simp)

def plane_sums.l0 : Nat → Nat → List Nat → Nat → List (S41) → Int → Int → Option (List Nat)
 | 0, _, _, _, _, _, _ => none
 | k + 1, x1, x5, x6, x12, x13, x14 => if x14 < x13 then (if 0 ≤ x14 then (if x14 < (x12.length : Int) then ((plane_counts.f ((rd_T41 x12 x14).f1) x1).bind fun t269 => (if (faddOk x6 t269) = true then (if x14 < (x5.length : Int) then (plane_sums.l0 k x1 (x5.set (x14 : Int).toNat (fadd x6 t269)) (fadd x6 t269) x12 x13 (wrap64 (x14 + 1))) else (none)) else (none))) else (none)) else (none)) else (some x5)
def plane_sums.f (k : Nat) (l0 : List (S41)) (a1 : Nat) : Option (List Nat) := if 0 ≤ (l0.length : Int) then (if ((l0.length : Int) : Int).toNat ≤ 35184372088832 then (plane_sums.l0 k a1 (List.replicate ((l0.length : Int) : Int).toNat 0) 0 l0 (l0.length : Int) 0) else (none)) else (none)
theorem plane_sums.mono_l : ∀ k, (∀ y0 y1 y2 y3 y4 y5, LeO (plane_sums.l0 k y0 y1 y2 y3 y4 y5) (plane_sums.l0 (k + 1) y0 y1 y2 y3 y4 y5))
 | 0 => fun _ _ _ _ _ _ r h => by simp [plane_sums.l0] at h
 | k + 1 => by
  have ih0 := plane_sums.mono_l k;intro y0 y1 y2 y3 y4 y5;unfold plane_sums.l0
  repeat' with_reducible first | exact ih0 _ _ _ _ _ _ | exact LeO.refl _ | exact LeO.none _ | refine LeO.ite ?_ ?_ | refine LeO.bind ?_ (fun _ => ?_)
theorem plane_sums.mono : ∀ a0 a1 k, LeO (plane_sums.f k a0 a1) (plane_sums.f (k + 1) a0 a1) := by
 intro a0 a1 k;have ih0 := plane_sums.mono_l k;unfold plane_sums.f
 repeat' with_reducible first | exact ih0 _ _ _ _ _ _ | exact LeO.refl _ | exact LeO.none _ | refine LeO.ite ?_ ?_ | refine LeO.bind ?_ (fun _ => ?_)
set_option maxHeartbeats 8000000 in
set_option maxRecDepth 100000 in
theorem plane_sums.calls (k : Nat) (A0 : Option Addr) (c0 : Nat) (l0 : List (S41)) (a1 : Nat) (r : List Nat) (w : World) (hr0 : Kd.C k41 w A0 l0.length l0) (hc0 : l0.length ≤ c0) (h : plane_sums.f k l0 a1 = some r) :
  Calls Tryz.prog 42 #[.slice A0 l0.length c0, .float .f64 a1] w fun e w' => ∃ v0_ : Value, e = .returned (v0_) ∧ Kd.R Kd.float 30 w' w.heap.size (fun _ => True) v0_ r ∧ Below w.heap.size w w' := by
 have hu41 := Tryz.underlying41;have HR0 := zN hr0;have HC0 := zN hc0;clear hr0 hc0;have HB := zN (Below.refl w.heap.size w);have H : (if 0 ≤ (l0.length : Int) then (if ((l0.length : Int) : Int).toNat ≤ 35184372088832 then (plane_sums.l0 k a1 (List.replicate ((l0.length : Int) : Int).toNat 0) 0 l0 (l0.length : Int) 0) else (none)) else (none)) = some r := h;clear h;by_cases c3 : 0 ≤ (l0.length : Int);rotate_left
 ·rw [zn c3] at H;exact absurd H (by simp)
 rw [zp c3] at H;have c3b0 := zu c3;have c3b1 := zt c3;clear c3;by_cases c4 : ((l0.length : Int) : Int).toNat ≤ 35184372088832;rotate_left
 ·rw [zn c4] at H;exact absurd H (by simp)
 rw [zp c4] at H;have c4b0 := zu c4;have c4b1 := zt c4;clear c4;obtain ⟨y264, hy264⟩ : ∃ y_ : List Nat, y_ = (List.replicate ((l0.length : Int) : Int).toNat 0) := ⟨_, rfl⟩;replace H : (plane_sums.l0 k a1 y264 0 l0 (l0.length : Int) 0) = some r := by first | (rw [hy264]; with_reducible exact H) | (have H2_ := (Option.bind_some _ _).symm.trans H; rw [hy264]; with_reducible exact H2_) | (have H2_ := (Option.bind_some _ _).symm.trans H; with_reducible exact H2_) | with_reducible exact H | (rw [hy264]; exact H) | exact H
 have Ny264 := zN hy264;clear hy264;have H' := zN H;clear H;go_enter Tryz.func42, Tryz.ntmps42;go_wp2_with (first | ((with_reducible refine gate_dst (N := 11) rfl ?_); refine Kd.R_make Kd.float _ 30 rfl (N := 11) rfl 92 _ _ rfl (l0.length : Int) rfl rfl Tryz.underlying92 (.float .f64 0) 8 info30 rfl (by decide) zO 0 (ok := fun _ => True) (okp := fun _ => True) rfl (fun _ hk => hk) trivial (zd zS) (Nat.le_trans (Nat.mul_le_mul_right _ (zd zS : (l0.length : Int).toNat ≤ 35184372088832)) zO) (Below.refl _ _) (zh _) ?_; intro v265 w5 ho6 hb hg_ hnew_; clear hg_ hnew_; (first | rw [← Ny264.out] at ho6 | (simp only [Int.reduceToNat] at ho6; rw [← Ny264.out] at ho6)); have HO266 := zN (Kd.R_lower ho6 (below_size (zB HB))); replace HB := zk HB hb; clear hb ho6));go_loopg [6, 14] k (fun kq v6 v14 w' => ∃ (x5_1 : List Nat) (x6_1 : Nat) (x14_1 : Int), v6 = .float .f64 x6_1 ∧ v14 = .int .i64 x14_1 ∧ Aside0 (plane_sums.l0 kq a1 x5_1 x6_1 l0 (l0.length : Int) x14_1 = some r) ∧ Aside0 (kq ≤ k) ∧ Aside0 (Kd.R Kd.float 30 w' w.heap.size (fun _ => True) v265 x5_1) ∧ Aside0 (Below w.heap.size w w'))
 case atStart => exact ⟨(y264), (0), (0), zI, zI, H', ⟨zh _⟩, ⟨zR HO266⟩, ⟨zB HB⟩⟩
 case round =>
  clear H'
  try clear c3
  try clear c3b0
  try clear c3b1
  try clear c4
  try clear c4b0
  try clear c4b1
  obtain ⟨x5_1, x6_1, x14_1, rfl, rfl, HA, HK1, HO_5, HB⟩ := hrel;cases gk with
  | zero => exact absurd HA.out (by simp [plane_sums.l0])
  | succ k1 =>
   have H := HA.out;clear HA;simp only [plane_sums.l0] at H;by_cases c7 : x14_1 < (l0.length : Int);rotate_left
   ·rw [zn c7] at H;have c7b0 := zf c7;clear c7;obtain rfl := zo H;go_wp2;go_ret;exact ⟨_, zE, zR HO_5, zB HB⟩
   rw [zp c7] at H;have c7b0 := zt c7;clear c7;by_cases c8 : 0 ≤ x14_1;rotate_left
   ·rw [zn c8] at H;exact absurd H (by simp)
   rw [zp c8] at H;have c8b0 := zt c8;clear c8;by_cases c9 : x14_1 < (l0.length : Int);rotate_left
   ·rw [zn c9] at H;exact absurd H (by simp)
   rw [zp c9] at H;have c9b0 := zt c9;clear c9;obtain ⟨t269, A10, H⟩ := zA H;(try dsimp only at H);by_cases c11 : (faddOk x6_1 t269) = true;rotate_left
   ·rw [zn c11] at H;exact absurd H (by simp)
   rw [zp c11] at H;have c11b0 := zu c11;have c11b1 := zt c11;clear c11;by_cases c12 : x14_1 < (x5_1.length : Int);rotate_left
   ·rw [zn c12] at H;exact absurd H (by simp)
   rw [zp c12] at H;have c12b0 := zt c12;clear c12;obtain ⟨y270, hy270⟩ : ∃ y_ : List Nat, y_ = (x5_1.set (x14_1 : Int).toNat (fadd x6_1 t269)) := ⟨_, rfl⟩;replace H : (plane_sums.l0 k1 a1 y270 (fadd x6_1 t269) l0 (l0.length : Int) (wrap64 (x14_1 + 1))) = some r := by first | (rw [hy270]; with_reducible exact H) | (have H2_ := (Option.bind_some _ _).symm.trans H; rw [hy270]; with_reducible exact H2_) | (have H2_ := (Option.bind_some _ _).symm.trans H; with_reducible exact H2_) | with_reducible exact H | (rw [hy270]; exact H) | exact H
   have Ny270 := zN hy270;clear hy270;have H' := zN H;clear H;have p267 : 0 ≤ (x14_1 : Int) := zd zS;have q267 : x14_1 < (l0.length : Int) := zd zS;obtain ⟨ad267, e267, hx267_0, hx267_1⟩ := at_T41 HR0.out x14_1 p267 q267;cases e267;replace hx267_0 := (HB.out.cell (zw w _ hx267_0)).trans hx267_0;replace hx267_1 := (HB.out.cell (zw w _ hx267_1)).trans hx267_1;replace p267 := zu p267;replace q267 := zu q267;go_wp2_with (first | ((with_reducible refine gate_dst (N := 8) rfl ?_); refine zX #[.string (⟨#[]⟩ : ByteArray), .float .f64 0] 41 rfl ?_; intro gb268 hg w14 hbox hb; replace HO_5 := zN (Kd.R_below (zR HO_5) hb); have BK268 := zN hbox; have GW268 := zY w (zB HB) hg; have GE268 := zY w (zB HB) hg; replace HB := zk HB hb; clear hb hbox hg; obtain ⟨hcz15_0, hcz15_1, hfz15_0, hfz15_1⟩ := zC2 BK268) | ((with_reducible refine gate_store (t := 41) (p := 8) rfl ?_); refine store_event (t := 41) (p := 8) (v := ?vo_w16) (w1 := ((w14.setCell ⟨gb268, 0, none⟩ (.string ((rd_T41 l0 x14_1).f0))).setCell ⟨gb268, 1, none⟩ (.float .f64 ((rd_T41 l0 x14_1).f1)))) ?hg ?ho ?hn ?hr ?_; (case ho => rfl); (case hg => rfl); (case hn => rfl); (case hr => first | (go_simp; done) | (go_simp; rfl)); intro w16 hw; replace HO_5 : Aside0 (Kd.R Kd.float 30 w16 w.heap.size (fun _ => True) v265 x5_1) := ⟨(by rw [hw]; exact (by (with_reducible repeat (first | apply Kd.R_alloc | apply Kd.R_drewN | apply Kd.R_drew)); exact Kd.R_mono (Kd.R_far (p := ⟨gb268, 1, none⟩) (Kd.R_far (p := ⟨gb268, 0, none⟩) (Kd.R_types HO_5.out BK268.out (by decide)) (fun _ hk => hk.2) (.string ((rd_T41 l0 x14_1).f0))) (fun _ hk => hk.2) (.float .f64 ((rd_T41 l0 x14_1).f1))) (fun _ hk => trivial)))⟩; replace BK268 : Aside0 (w16.heap[gb268]? = some (.cells #[.string ((rd_T41 l0 x14_1).f0), .float .f64 ((rd_T41 l0 x14_1).f1)] 41 (0, 0))) := ⟨(by rw [hw]; exact (zF BK268))⟩; replace HB : Aside0 (Below w.heap.size w w16) := ⟨(by rw [hw]; exact (zB1 HB GE268))⟩; clear hw; obtain ⟨hcz17_0, hcz17_1, hfz17_0, hfz17_1⟩ := zC2 BK268) | ((with_reducible refine gate_callee (f := 44) rfl ?_); refine zg (some 23) Tryz.func44 #[.float .f64 ((rd_T41 l0 x14_1).f1), .float .f64 a1] ?_; (with_reducible refine (plane_counts.calls ((rd_T41 l0 x14_1).f1) a1 t269 _ A10.out).mono ?_); rintro e w' ⟨rfl, ⟨nd, rfl⟩⟩; refine ⟨_, rfl, ?_⟩; (try (rw [drewN_self w16]; generalize hq_ : World.drewN w16 _ = w16; replace HO_5 : Aside0 (Kd.R Kd.float 30 w16 w.heap.size (fun _ => True) v265 x5_1) := ⟨by rw [← hq_]; exact (zR HO_5)⟩; replace BK268 : Aside0 (w16.heap[gb268]? = some (.cells #[.string ((rd_T41 l0 x14_1).f0), .float .f64 ((rd_T41 l0 x14_1).f1)] 41 (0, 0))) := ⟨by rw [← hq_]; exact (zK BK268)⟩; replace HB : Aside0 (Below w.heap.size w w16) := ⟨by rw [← hq_]; exact (zB1 HB GE268)⟩; clear hq_)); have p13 : 0 ≤ (x14_1 : Int) := zd zS; have q13 : (x14_1 : Int) < ((x5_1.length : Int) : Int) := zd zS; obtain ⟨go13, co13, eo13, gb13, gl13, cl13, HG13⟩ := Kd.R_form HO_5.out zO; (first | cases eo13 | (injection eo13 with ea_ en_ ec_; (first | subst ea_ | (injection ea_ with ea_; subst ea_)); subst ec_; clear en_)); have GB13 := zN gb13; have GG13 := zN HG13; clear gb13 gl13 HG13; obtain ⟨hx13_0, hf13_0⟩ := Kd.R_celln 0 HO_5.out (x14_1 : Int) p13 q13; replace p13 := zu p13; replace q13 := zu q13; obtain ⟨hy18_, hz18_⟩ := Kd.R_celln 0 HO_5.out (x14_1 : Int) (zd zS) (zd zS); have HP18 := Kd.R_putg HO_5.out (x14_1 : Int) (fadd x6_1 t269)) | ((with_reducible refine gate_store (t := 30) (p := 28) rfl ?_); refine store_event (t := 30) (p := 28) (v := ?vo_w19) (w1 := (w16.setCell ⟨go13, (x14_1 : Int).toNat, none⟩ (.float .f64 (fadd x6_1 t269)))) ?hg ?ho ?hn ?hr ?_; (case ho => rfl); (case hg => rfl); (case hn => rfl); (case hr => first | (go_simp; done) | (go_simp; rfl)); intro w19 hw; have hg : w16.grownBy w19 (some go13) := (by rw [hw]; exact HP18.2); have hp_ : Kd.R Kd.float 30 w19 w.heap.size (fun _ => True) (.slice (some ⟨go13, 0, none⟩) x5_1.length co13) y270 := (by rw [hw, Ny270.out]; exact HP18.1); clear HP18; replace BK268 := zN (blk_grown (g := gb268) (o := .cells #[.string ((rd_T41 l0 x14_1).f0), .float .f64 ((rd_T41 l0 x14_1).f1)] 41 (0, 0)) (zK BK268) hg (Kd.R_ne HO_5.out BK268.out (by decide))); replace HO_5 := zN hp_; replace HB := zN (by rw [hw]; exact below_set (HB.out) GB13.out : Below w.heap.size w w19); clear hg hw hp_))
   go_roundg k1
   case measure => have := HK1.out; omega
   case rel => exact ⟨(y270), (fadd x6_1 t269), (wrap64 (x14_1 + 1)), zI, zI, H', ⟨by have := HK1.out; omega⟩, ⟨zR HO_5⟩, ⟨zB1 HB GE268⟩⟩

mutual
def plane_Weigh.j0 : Nat → List (S41) → Nat → List Nat → Nat → Option (Int × Bool)
 | 0, _, _, _, _ => none
 | k + 1, x0, x1, x6, x7 => if 0 ≤ (wrap64 ((x6.length : Int) - 1)) then (if (wrap64 ((x6.length : Int) - 1)) < (x6.length : Int) then (if ((fgtr (rdOf 0 x6 (wrap64 ((x6.length : Int) - 1))) 0) = true) then (if ((fgeq x1 0) = true) then (plane_Weigh.j1 k x0 x1 x6 x7 (rdOf 0 x6 (wrap64 ((x6.length : Int) - 1)))) else (plane_Weigh.j1 k x0 0 x6 x7 (rdOf 0 x6 (wrap64 ((x6.length : Int) - 1))))) else (some (0, false))) else (none)) else (none)
def plane_Weigh.j1 : Nat → List (S41) → Nat → List Nat → Nat → Nat → Option (Int × Bool)
 | 0, _, _, _, _, _ => none
 | k + 1, x0, x1, x6, x7, x8 => if (fmulOk x1 x8) = true then (plane_Weigh.l0 k x1 x6 x7 0 (fmul x1 x8) x0 (x0.length : Int) 0) else (none)
def plane_Weigh.l0 : Nat → Nat → List Nat → Nat → Int → Nat → List (S41) → Int → Int → Option (Int × Bool)
 | 0, _, _, _, _, _, _, _, _ => none
 | k + 1, x1, x6, x7, x9, x10, x43, x44, x45 => if x45 < x44 then (if 0 ≤ x45 then (if x45 < (x43.length : Int) then ((plane_counts.f ((rd_T41 x43 x45).f1) x7).bind fun t282 => (if ((fgtr t282 0) = true) then (if (flss x1 4607182418800017408) = true then (if x45 < (x6.length : Int) then (if (flss x10 (rdOf 0 x6 x45)) = true then (some (x45, true)) else (plane_Weigh.l0 k x1 x6 x7 x45 x10 x43 x44 (wrap64 (x45 + 1)))) else (none)) else (plane_Weigh.l0 k x1 x6 x7 x45 x10 x43 x44 (wrap64 (x45 + 1)))) else (plane_Weigh.l0 k x1 x6 x7 x9 x10 x43 x44 (wrap64 (x45 + 1))))) else (none)) else (none)) else (some (x9, true))
end
def plane_Weigh.f (k : Nat) (l0 : List (S41)) (a1 : Nat) : Option (Int × Bool) := if (l0.length : Int) = 0 then (some (0, false)) else ((plane_sums.f k l0 4607182418800017408).bind fun t271 => (if 0 ≤ (wrap64 ((t271.length : Int) - 1)) then (if (wrap64 ((t271.length : Int) - 1)) < (t271.length : Int) then ((math_IsInf.f (rdOf 0 t271 (wrap64 ((t271.length : Int) - 1))) 1).bind fun t275 => (if t275 = true then ((plane_sums.f k l0 4562146422526312448).bind fun t276 => (plane_Weigh.j0 k l0 a1 t276 4562146422526312448)) else (plane_Weigh.j0 k l0 a1 t271 4607182418800017408))) else (none)) else (none)))
theorem plane_Weigh.mono_l : ∀ k, (∀ y0 y1 y2 y3, LeO (plane_Weigh.j0 k y0 y1 y2 y3) (plane_Weigh.j0 (k + 1) y0 y1 y2 y3)) ∧ (∀ y0 y1 y2 y3 y4, LeO (plane_Weigh.j1 k y0 y1 y2 y3 y4) (plane_Weigh.j1 (k + 1) y0 y1 y2 y3 y4)) ∧ (∀ y0 y1 y2 y3 y4 y5 y6 y7, LeO (plane_Weigh.l0 k y0 y1 y2 y3 y4 y5 y6 y7) (plane_Weigh.l0 (k + 1) y0 y1 y2 y3 y4 y5 y6 y7))
 | 0 => ⟨fun _ _ _ _ r h => by simp [plane_Weigh.j0] at h, fun _ _ _ _ _ r h => by simp [plane_Weigh.j1] at h, fun _ _ _ _ _ _ _ _ r h => by simp [plane_Weigh.l0] at h⟩
 | k + 1 => by
  obtain ⟨ih0, ih1, ih2⟩ := plane_Weigh.mono_l k;refine ⟨?_, ?_, ?_⟩
  ·intro y0 y1 y2 y3;unfold plane_Weigh.j0
   repeat' with_reducible first | exact ih0 _ _ _ _ | exact ih1 _ _ _ _ _ | exact ih2 _ _ _ _ _ _ _ _ | exact plane_sums.mono _ _ _ | exact LeO.refl _ | exact LeO.none _ | refine LeO.ite ?_ ?_ | refine LeO.bind ?_ (fun _ => ?_)
  ·intro y0 y1 y2 y3 y4;unfold plane_Weigh.j1
   repeat' with_reducible first | exact ih0 _ _ _ _ | exact ih1 _ _ _ _ _ | exact ih2 _ _ _ _ _ _ _ _ | exact plane_sums.mono _ _ _ | exact LeO.refl _ | exact LeO.none _ | refine LeO.ite ?_ ?_ | refine LeO.bind ?_ (fun _ => ?_)
  intro y0 y1 y2 y3 y4 y5 y6 y7;unfold plane_Weigh.l0
  repeat' with_reducible first | exact ih0 _ _ _ _ | exact ih1 _ _ _ _ _ | exact ih2 _ _ _ _ _ _ _ _ | exact plane_sums.mono _ _ _ | exact LeO.refl _ | exact LeO.none _ | refine LeO.ite ?_ ?_ | refine LeO.bind ?_ (fun _ => ?_)
theorem plane_Weigh.mono : ∀ a0 a1 k, LeO (plane_Weigh.f k a0 a1) (plane_Weigh.f (k + 1) a0 a1) := by
 intro a0 a1 k;obtain ⟨ih0, ih1, ih2⟩ := plane_Weigh.mono_l k;unfold plane_Weigh.f
 repeat' with_reducible first | exact ih0 _ _ _ _ | exact ih1 _ _ _ _ _ | exact ih2 _ _ _ _ _ _ _ _ | exact plane_sums.mono _ _ _ | exact LeO.refl _ | exact LeO.none _ | refine LeO.ite ?_ ?_ | refine LeO.bind ?_ (fun _ => ?_)
set_option maxHeartbeats 8000000 in
set_option maxRecDepth 100000 in
theorem plane_Weigh.calls (k : Nat) (A0 : Option Addr) (c0 : Nat) (l0 : List (S41)) (a1 : Nat) (r1 : Int) (r2 : Bool) (w : World) (hr0 : Kd.C k41 w A0 l0.length l0) (hc0 : l0.length ≤ c0) (h : plane_Weigh.f k l0 a1 = some (r1, r2)) :
  Calls Tryz.prog 22 #[.slice A0 l0.length c0, .float .f64 a1] w fun e w' => e = .returned (.tuple #[.int .i64 r1, .bool r2]) ∧ Below w.heap.size w w' := by
 have hu41 := Tryz.underlying41;have HR0 := zN hr0;have HC0 := zN hc0;clear hr0 hc0;have HB := zN (Below.refl w.heap.size w);have H : (if (l0.length : Int) = 0 then (some (0, false)) else ((plane_sums.f k l0 4607182418800017408).bind fun t271 => (if 0 ≤ (wrap64 ((t271.length : Int) - 1)) then (if (wrap64 ((t271.length : Int) - 1)) < (t271.length : Int) then ((math_IsInf.f (rdOf 0 t271 (wrap64 ((t271.length : Int) - 1))) 1).bind fun t275 => (if t275 = true then ((plane_sums.f k l0 4562146422526312448).bind fun t276 => (plane_Weigh.j0 k l0 a1 t276 4562146422526312448)) else (plane_Weigh.j0 k l0 a1 t271 4607182418800017408))) else (none)) else (none)))) = some (r1, r2) := h;clear h;by_cases c3 : (l0.length : Int) = 0
 ·rw [zp c3] at H;have c3b0 := beq_iff_eq.mpr c3;have c3b1 := zc.mpr c3;clear c3;simp only [Option.some.injEq, Prod.mk.injEq] at H;obtain ⟨rfl, rfl⟩ := H;go_enter Tryz.func22, Tryz.ntmps22;go_wp2;go_ret2;exact ⟨zE, zB HB⟩
 rw [zn c3] at H;have c3b0 := zb.mpr c3;have c3b1 := bne_iff_ne.mpr c3;have c3b2 : ¬ (l0 = []) := fun h_ => c3 (by rw [h_]; rfl)
 obtain ⟨t271, A4, H⟩ := zA H;(try dsimp only at H);obtain ⟨ji5, hji5⟩ : ∃ j_ : Int, (wrap64 ((t271.length : Int) - 1)) = j_ := ⟨_, rfl⟩;replace H : (if 0 ≤ (ji5) then (if (ji5) < (t271.length : Int) then ((math_IsInf.f (rdOf 0 t271 (ji5)) 1).bind fun t275 => (if t275 = true then ((plane_sums.f k l0 4562146422526312448).bind fun t276 => (plane_Weigh.j0 k l0 a1 t276 4562146422526312448)) else (plane_Weigh.j0 k l0 a1 t271 4607182418800017408))) else (none)) else (none)) = some (r1, r2) := by first | (rw [hji5] at H; exact H) | (simp only [hji5] at H ⊢; exact H)
 (try rw [hji5] at A4);have hji5w : (IntKind.i64.wrap ((t271.length : Int) - 1)) = ji5 := (i64_w _).trans hji5;by_cases c6 : 0 ≤ (ji5);rotate_left
 ·rw [zn c6] at H;exact absurd H (by simp)
 rw [zp c6] at H;have c6b0 := zt c6;clear c6;by_cases c7 : (ji5) < (t271.length : Int);rotate_left
 ·rw [zn c7] at H;exact absurd H (by simp)
 rw [zp c7] at H;have c7b0 := zt c7;clear c7;obtain ⟨t275, A8, H⟩ := zA H;(try dsimp only at H);have HC9 := zN H;clear H;go_enter Tryz.func22, Tryz.ntmps22;go_upto_if 24 with (first | ((with_reducible refine gate_callee (f := 42) rfl ?_); refine zg (some 17) Tryz.func42 #[.slice A0 l0.length c0, .float .f64 4607182418800017408] ?_; (with_reducible refine (plane_sums.calls k _ _ l0 4607182418800017408 t271 _ ?side1 ?side2 A4.out).mono ?_); (case side1 => exact zs HR0.out); (case side2 => exact HC0.out); rintro e w10 ⟨v272, rfl, ho0, hb⟩; refine ⟨_, rfl, ?_⟩; have HO273 := zN (Kd.R_lower ho0 (below_size (zB HB))); replace HB := zk HB hb; (try clear hb); (try clear hb2); (try clear hk); (try clear hi); (try clear ho0); obtain ⟨Ao11, co11, eo11⟩ := Kd.R_slice HO273.out; subst eo11; have p274 : 0 ≤ ((ji5) : Int) := zd zS; have q274 : (ji5) < (t271.length : Int) := zd zS; obtain ⟨ad274, e274, hx274_0⟩ := Kd.at_float (Kd.R_reads' HO273.out).2.2 (ji5) p274 q274; cases e274; replace p274 := zu p274; replace q274 := zu q274) | ((with_reducible refine gate_callee (f := 43) rfl ?_); refine goesL_ (some 24) rfl rfl Tryz.func43 zQ rfl #[.float .f64 (rdOf 0 t271 (ji5)), .int .i64 1] rfl (by (try simp only [List.map_toArray, List.map_cons, List.map_nil]); first | done | (simp only [hji5]; rfl) | rfl | (simp only [List.length_drop, List.length_take]; rfl)) ?_; (with_reducible refine (math_IsInf.calls (rdOf 0 t271 (ji5)) 1 t275 _ A8.out).mono ?_); rintro e w' ⟨rfl, ⟨nd, rfl⟩⟩; refine ⟨_, rfl, ?_⟩))
 (try simp only [Act.put, List.setIfInBounds_toArray, List.set_cons_zero, List.set_cons_succ]);go_cut [6, 7] (fun v6 v7 wc => ∃ (kq : Nat) (x6_8 : List Nat) (x7_8 : Nat), v7 = .float .f64 x7_8 ∧ Aside0 (plane_Weigh.j0 kq l0 a1 x6_8 x7_8 = some (r1, r2)) ∧ Aside0 (kq ≤ k) ∧ Aside0 (Kd.R Kd.float 30 wc w.heap.size (fun _ => True) v6 x6_8) ∧ Aside0 (Below w.heap.size w wc))
 case first =>
  have H := HC9.out;clear HC9;by_cases c12 : t275 = true
  ·subst c12;have H1 := H; rw [zp rfl] at H1;clear H;have H := H1;clear H1;obtain ⟨t276, A13, H⟩ := zA H;(try dsimp only at H);have H' := zN H;clear H;go_wp2_with (first | ((with_reducible refine gate_callee (f := 42) rfl ?_); refine zg (some 27) Tryz.func42 #[.slice A0 l0.length c0, .float .f64 4562146422526312448] ?_; (with_reducible refine (plane_sums.calls k _ _ l0 4562146422526312448 t276 _ ?side1 ?side2 A13.out).mono ?_); (case side1 => exact zs (Kd.C_below HR0.out HB.out)); (case side2 => exact HC0.out); rintro e w14 ⟨v277, rfl, ho0, hb⟩; refine ⟨_, rfl, ?_⟩; have HO278 := zN (Kd.R_lower (Kd.R_new' ho0 (Kd.R_lt (zR HO273))) (below_size (zB HB))); replace HO273 := zN (Kd.R_elder' (zR HO273) (Kd.R_base ho0) hb); replace HB := zk HB hb; (try clear hb); (try clear hb2); (try clear hk); (try clear hi); (try clear ho0)));go_meet
   case rel => exact ⟨_, (t276), (4562146422526312448), zI, H', ⟨by first | omega | exact zh _⟩, ⟨by (with_reducible repeat (first | apply Kd.R_alloc | apply Kd.R_drewN | apply Kd.R_drew)); exact Kd.R_mono HO278.out (fun _ hk => trivial)⟩, ⟨zB HB⟩⟩
  replace c12 := zq.mpr c12;subst c12;have H1 := H; rw [zn (show ¬ (false = true) by decide)] at H1;clear H;have H := H1;clear H1;have H' := zN H;clear H;go_wp2;go_meet
  case rel => exact ⟨_, (t271), (4607182418800017408), zI, H', ⟨by first | omega | exact zh _⟩, ⟨zR HO273⟩, ⟨zB HB⟩⟩
 case rest =>
  clear HC9
  try clear c3
  try clear c3b0
  try clear c3b1
  try clear c3b2
  try clear c6
  try clear c6b0
  try clear c7
  try clear c7b0
  try clear hx274_0
  try clear p274
  try clear q274
  obtain ⟨kq, x6_8, x7_8, rfl, HA, HJ8, HO_6, HB⟩ := hcut;cases kq with
  | zero => exact absurd HA.out (by simp [plane_Weigh.j0])
  | succ kj8 =>
   have H := HA.out;clear HA;simp only [plane_Weigh.j0] at H;obtain ⟨ji15, hji15⟩ : ∃ j_ : Int, (wrap64 ((x6_8.length : Int) - 1)) = j_ := ⟨_, rfl⟩;replace H : (if 0 ≤ (ji15) then (if (ji15) < (x6_8.length : Int) then (if ((fgtr (rdOf 0 x6_8 (ji15)) 0) = true) then (if ((fgeq a1 0) = true) then (plane_Weigh.j1 kj8 l0 a1 x6_8 x7_8 (rdOf 0 x6_8 (ji15))) else (plane_Weigh.j1 kj8 l0 0 x6_8 x7_8 (rdOf 0 x6_8 (ji15)))) else (some (0, false))) else (none)) else (none)) = some (r1, r2) := by first | (rw [hji15] at H; exact H) | (simp only [hji15] at H ⊢; exact H)
   have hji15w : (IntKind.i64.wrap ((x6_8.length : Int) - 1)) = ji15 := (i64_w _).trans hji15;by_cases c16 : 0 ≤ (ji15);rotate_left
   ·rw [zn c16] at H;exact absurd H (by simp)
   rw [zp c16] at H;have c16b0 := zt c16;clear c16;by_cases c17 : (ji15) < (x6_8.length : Int);rotate_left
   ·rw [zn c17] at H;exact absurd H (by simp)
   rw [zp c17] at H;have c17b0 := zt c17;clear c17;by_cases c18 : ((fgtr (rdOf 0 x6_8 (ji15)) 0) = true);rotate_left
   ·rw [zn c18] at H;have c18b0 : (fgtr (rdOf 0 x6_8 (ji15)) 0) = false := by simpa using c18
    clear c18;simp only [Option.some.injEq, Prod.mk.injEq] at H;obtain ⟨rfl, rfl⟩ := H;obtain ⟨Ao39, co39, eo39⟩ := Kd.R_slice HO_6.out;subst eo39;have p279 : 0 ≤ ((ji15) : Int) := zd zS;have q279 : (ji15) < (x6_8.length : Int) := zd zS;obtain ⟨ad279, e279, hx279_0⟩ := Kd.at_float (Kd.R_reads' HO_6.out).2.2 (ji15) p279 q279;cases e279;replace p279 := zu p279;replace q279 := zu q279;go_wp2;go_ret2;exact ⟨by first | rfl | (simp [errW_none, errW_some] <;> rfl) | (simp only [← hji5, ← hji15]; first | rfl | (simp [errW_none, errW_some] <;> rfl)) | (simp [*, errW_none, errW_some] <;> rfl), zB HB⟩
   rw [zp c18] at H;have c18b0 : (fgtr (rdOf 0 x6_8 (ji15)) 0) = true := c18;clear c18;have HC19 := zN H;clear H;obtain ⟨Ao20, co20, eo20⟩ := Kd.R_slice HO_6.out;subst eo20;have p279 : 0 ≤ ((ji15) : Int) := zd zS;have q279 : (ji15) < (x6_8.length : Int) := zd zS;obtain ⟨ad279, e279, hx279_0⟩ := Kd.at_float (Kd.R_reads' HO_6.out).2.2 (ji15) p279 q279;cases e279;replace p279 := zu p279;replace q279 := zu q279;go_upto_if 39 with (fail)
   go_cut [1] (fun v1 wc => ∃ (kq : Nat) (x1_18 : Nat), v1 = .float .f64 x1_18 ∧ Aside0 (plane_Weigh.j1 kq l0 x1_18 x6_8 x7_8 (rdOf 0 x6_8 (ji15)) = some (r1, r2)) ∧ Aside0 (kq ≤ kj8) ∧ Aside0 (Kd.R Kd.float 30 wc w.heap.size (fun _ => True) (.slice (some ad279) x6_8.length co20) x6_8) ∧ Aside0 (Below w.heap.size w wc))
   case first =>
    have H := HC19.out;clear HC19;by_cases c21 : ((fgeq a1 0) = true)
    ·rw [zp c21] at H;have c21b0 : (fgeq a1 0) = true := c21;clear c21;(first | rw [c21b0] | (simp only [i64_w, i32_w]; rw [c21b0]) | skip);have H' := zN H;clear H;go_wp2;go_meet
     case rel => exact ⟨_, (a1), zI, H', ⟨by have := HJ8.out; first | omega | exact zh _⟩, ⟨zR HO_6⟩, ⟨zB HB⟩⟩
    rw [zn c21] at H;have c21b0 : (fgeq a1 0) = false := by simpa using c21
    clear c21;(first | rw [c21b0] | (simp only [i64_w, i32_w]; rw [c21b0]) | skip);have H' := zN H;clear H;go_wp2;go_meet
    case rel => exact ⟨_, (0), zI, H', ⟨by have := HJ8.out; first | omega | exact zh _⟩, ⟨zR HO_6⟩, ⟨zB HB⟩⟩
   case rest =>
    clear HC19
    try clear c3
    try clear c3b0
    try clear c3b1
    try clear c3b2
    try clear c6
    try clear c6b0
    try clear c7
    try clear c7b0
    try clear c16
    try clear c16b0
    try clear c17
    try clear c17b0
    try clear c18
    try clear c18b0
    try clear hx274_0
    try clear hx279_0
    try clear p274
    try clear p279
    try clear q274
    try clear q279
    obtain ⟨kq, x1_18, rfl, HA, HJ18, HO_6, HB⟩ := hcut;cases kq with
    | zero => exact absurd HA.out (by simp [plane_Weigh.j1])
    | succ kj18 =>
     have H := HA.out;clear HA;simp only [plane_Weigh.j1] at H;by_cases c22 : (fmulOk x1_18 (rdOf 0 x6_8 (ji15))) = true;rotate_left
     ·rw [zn c22] at H;exact absurd H (by simp)
     rw [zp c22] at H;have c22b0 := zu c22;have c22b1 := zt c22;clear c22;have H' := zN H;clear H;go_wp2;go_loopg [9, 45] kj18 (fun kq v9 v45 w' => ∃ (x9_3 : Int) (x45_3 : Int), v9 = .int .i64 x9_3 ∧ v45 = .int .i64 x45_3 ∧ Aside0 (plane_Weigh.l0 kq x1_18 x6_8 x7_8 x9_3 (fmul x1_18 (rdOf 0 x6_8 (ji15))) l0 (l0.length : Int) x45_3 = some (r1, r2)) ∧ Aside0 (kq ≤ kj18) ∧ Aside0 (Kd.R Kd.float 30 w' w.heap.size (fun _ => True) (.slice (some ad279) x6_8.length co20) x6_8) ∧ Aside0 (Below w.heap.size w w'))
     case atStart => exact ⟨(0), (0), zI, zI, H', ⟨zh _⟩, ⟨zR HO_6⟩, ⟨zB HB⟩⟩
     case round =>
      clear H'
      try clear c3
      try clear c3b0
      try clear c3b1
      try clear c3b2
      try clear c6
      try clear c6b0
      try clear c7
      try clear c7b0
      try clear c16
      try clear c16b0
      try clear c17
      try clear c17b0
      try clear c18
      try clear c18b0
      try clear c22
      try clear c22b0
      try clear c22b1
      try clear hx274_0
      try clear hx279_0
      try clear p274
      try clear p279
      try clear q274
      try clear q279
      obtain ⟨x9_3, x45_3, rfl, rfl, HA, HK3, HO_6, HB⟩ := hrel;cases gk with
      | zero => exact absurd HA.out (by simp [plane_Weigh.l0])
      | succ k3 =>
       have H := HA.out;clear HA;simp only [plane_Weigh.l0] at H;by_cases c23 : x45_3 < (l0.length : Int);rotate_left
       ·rw [zn c23] at H;have c23b0 := zf c23;clear c23;simp only [Option.some.injEq, Prod.mk.injEq] at H;obtain ⟨rfl, rfl⟩ := H;go_wp2;go_ret2;exact ⟨by first | rfl | (simp [errW_none, errW_some] <;> rfl) | (simp only [← hji5, ← hji15]; first | rfl | (simp [errW_none, errW_some] <;> rfl)) | (simp [*, errW_none, errW_some] <;> rfl), zB HB⟩
       rw [zp c23] at H;have c23b0 := zt c23;clear c23;by_cases c24 : 0 ≤ x45_3;rotate_left
       ·rw [zn c24] at H;exact absurd H (by simp)
       rw [zp c24] at H;have c24b0 := zt c24;clear c24;by_cases c25 : x45_3 < (l0.length : Int);rotate_left
       ·rw [zn c25] at H;exact absurd H (by simp)
       rw [zp c25] at H;have c25b0 := zt c25;clear c25;obtain ⟨t282, A26, H⟩ := zA H;(try dsimp only at H);by_cases c27 : ((fgtr t282 0) = true);rotate_left
       ·rw [zn c27] at H;have c27b0 : (fgtr t282 0) = false := by simpa using c27
        clear c27;have H' := zN H;clear H;have p280 : 0 ≤ (x45_3 : Int) := zd zS;have q280 : x45_3 < (l0.length : Int) := zd zS;obtain ⟨ad280, e280, hx280_0, hx280_1⟩ := at_T41 HR0.out x45_3 p280 q280;cases e280;replace hx280_0 := (HB.out.cell (zw w _ hx280_0)).trans hx280_0;replace hx280_1 := (HB.out.cell (zw w _ hx280_1)).trans hx280_1;replace p280 := zu p280;replace q280 := zu q280;go_wp2_with (first | ((with_reducible refine gate_dst (N := 12) rfl ?_); refine zX #[.string (⟨#[]⟩ : ByteArray), .float .f64 0] 41 rfl ?_; intro gb281 hg w37 hbox hb; replace HO_6 := zN (Kd.R_below (zR HO_6) hb); have BK281 := zN hbox; have GW281 := zY w (zB HB) hg; have GE281 := zY w (zB HB) hg; replace HB := zk HB hb; clear hb hbox hg; obtain ⟨hcz38_0, hcz38_1, hfz38_0, hfz38_1⟩ := zC2 BK281) | ((with_reducible refine gate_callee (f := 44) rfl ?_); refine zg (some 53) Tryz.func44 #[.float .f64 ((rd_T41 l0 x45_3).f1), .float .f64 x7_8] ?_; (with_reducible refine (plane_counts.calls ((rd_T41 l0 x45_3).f1) x7_8 t282 _ A26.out).mono ?_); rintro e w' ⟨rfl, ⟨nd, rfl⟩⟩; refine ⟨_, rfl, ?_⟩));go_roundg k3
        case measure => have := HJ8.out; have := HJ18.out; have := HK3.out; omega
        case rel => exact ⟨(x9_3), (wrap64 (x45_3 + 1)), zI, zI, H', ⟨by have := HJ8.out; have := HJ18.out; have := HK3.out; omega⟩, ⟨by (with_reducible repeat (first | apply Kd.R_alloc | apply Kd.R_drewN | apply Kd.R_drew)); exact Kd.R_mono (Kd.R_far (p := ⟨gb281, 1, none⟩) (Kd.R_far (p := ⟨gb281, 0, none⟩) (Kd.R_types HO_6.out BK281.out (by decide)) (fun _ hk => hk.2) (.string ((rd_T41 l0 x45_3).f0))) (fun _ hk => hk.2) (.float .f64 ((rd_T41 l0 x45_3).f1))) (fun _ hk => trivial)⟩, ⟨zB1 HB GE281⟩⟩
       rw [zp c27] at H;have c27b0 : (fgtr t282 0) = true := c27;clear c27;by_cases c28 : (flss x1_18 4607182418800017408) = true;rotate_left
       ·rw [zn c28] at H;have c28b0 : (flss x1_18 4607182418800017408) = false := by simpa using c28
        clear c28;have H' := zN H;clear H;have p280 : 0 ≤ (x45_3 : Int) := zd zS;have q280 : x45_3 < (l0.length : Int) := zd zS;obtain ⟨ad280, e280, hx280_0, hx280_1⟩ := at_T41 HR0.out x45_3 p280 q280;cases e280;replace hx280_0 := (HB.out.cell (zw w _ hx280_0)).trans hx280_0;replace hx280_1 := (HB.out.cell (zw w _ hx280_1)).trans hx280_1;replace p280 := zu p280;replace q280 := zu q280;go_wp2_with (first | ((with_reducible refine gate_dst (N := 12) rfl ?_); refine zX #[.string (⟨#[]⟩ : ByteArray), .float .f64 0] 41 rfl ?_; intro gb281 hg w35 hbox hb; replace HO_6 := zN (Kd.R_below (zR HO_6) hb); have BK281 := zN hbox; have GW281 := zY w (zB HB) hg; have GE281 := zY w (zB HB) hg; replace HB := zk HB hb; clear hb hbox hg; obtain ⟨hcz36_0, hcz36_1, hfz36_0, hfz36_1⟩ := zC2 BK281) | ((with_reducible refine gate_callee (f := 44) rfl ?_); refine zg (some 53) Tryz.func44 #[.float .f64 ((rd_T41 l0 x45_3).f1), .float .f64 x7_8] ?_; (with_reducible refine (plane_counts.calls ((rd_T41 l0 x45_3).f1) x7_8 t282 _ A26.out).mono ?_); rintro e w' ⟨rfl, ⟨nd, rfl⟩⟩; refine ⟨_, rfl, ?_⟩));go_roundg k3
        case measure => have := HJ8.out; have := HJ18.out; have := HK3.out; omega
        case rel => exact ⟨(x45_3), (wrap64 (x45_3 + 1)), zI, zI, H', ⟨by have := HJ8.out; have := HJ18.out; have := HK3.out; omega⟩, ⟨by (with_reducible repeat (first | apply Kd.R_alloc | apply Kd.R_drewN | apply Kd.R_drew)); exact Kd.R_mono (Kd.R_far (p := ⟨gb281, 1, none⟩) (Kd.R_far (p := ⟨gb281, 0, none⟩) (Kd.R_types HO_6.out BK281.out (by decide)) (fun _ hk => hk.2) (.string ((rd_T41 l0 x45_3).f0))) (fun _ hk => hk.2) (.float .f64 ((rd_T41 l0 x45_3).f1))) (fun _ hk => trivial)⟩, ⟨zB1 HB GE281⟩⟩
       rw [zp c28] at H;have c28b0 : (flss x1_18 4607182418800017408) = true := c28;clear c28;by_cases c29 : x45_3 < (x6_8.length : Int);rotate_left
       ·rw [zn c29] at H;exact absurd H (by simp)
       rw [zp c29] at H;have c29b0 := zt c29;clear c29;by_cases c30 : (flss (fmul x1_18 (rdOf 0 x6_8 (ji15))) (rdOf 0 x6_8 x45_3)) = true
       ·rw [zp c30] at H;have c30b0 : (flss (fmul x1_18 (rdOf 0 x6_8 (ji15))) (rdOf 0 x6_8 x45_3)) = true := c30;clear c30;simp only [Option.some.injEq, Prod.mk.injEq] at H;obtain ⟨rfl, rfl⟩ := H;have p280 : 0 ≤ (x45_3 : Int) := zd zS;have q280 : x45_3 < (l0.length : Int) := zd zS;obtain ⟨ad280, e280, hx280_0, hx280_1⟩ := at_T41 HR0.out x45_3 p280 q280;cases e280;replace hx280_0 := (HB.out.cell (zw w _ hx280_0)).trans hx280_0;replace hx280_1 := (HB.out.cell (zw w _ hx280_1)).trans hx280_1;replace p280 := zu p280;replace q280 := zu q280;go_wp2_with (first | ((with_reducible refine gate_dst (N := 12) rfl ?_); refine zX #[.string (⟨#[]⟩ : ByteArray), .float .f64 0] 41 rfl ?_; intro gb281 hg w31 hbox hb; replace HO_6 := zN (Kd.R_below (zR HO_6) hb); have BK281 := zN hbox; have GW281 := zY w (zB HB) hg; have GE281 := zY w (zB HB) hg; replace HB := zk HB hb; clear hb hbox hg; obtain ⟨hcz32_0, hcz32_1, hfz32_0, hfz32_1⟩ := zC2 BK281) | ((with_reducible refine gate_callee (f := 44) rfl ?_); refine zg (some 53) Tryz.func44 #[.float .f64 ((rd_T41 l0 x45_3).f1), .float .f64 x7_8] ?_; (with_reducible refine (plane_counts.calls ((rd_T41 l0 x45_3).f1) x7_8 t282 _ A26.out).mono ?_); rintro e w' ⟨rfl, ⟨nd, rfl⟩⟩; refine ⟨_, rfl, ?_⟩; have p283 : 0 ≤ (x45_3 : Int) := zd zS; have q283 : x45_3 < (x6_8.length : Int) := zd zS; obtain ⟨ad283, e283, hx283_0⟩ := Kd.at_float (Kd.R_reads' HO_6.out).2.2 x45_3 p283 q283; obtain rfl : ad279 = ad283 := (by injection e283); have hn283_0 : ad279.block ≠ gb281 := Kd.own_blk (Kd.R_ne HO_6.out BK281.out (by decide)); have hn283_1 : ad279.block ≠ gb281 := Kd.own_blk (Kd.R_ne HO_6.out BK281.out (by decide)); replace hx283_0 := (cell_far (p := ⟨gb281, 0, none⟩) (by first | (rw [add_block]; exact hn283_0) | (show (Addr.add _ _).block ≠ _; rw [add_block]; exact hn283_0) | exact hn283_0) (.string ((rd_T41 l0 x45_3).f0))).trans hx283_0; replace hx283_0 := (cell_far (p := ⟨gb281, 1, none⟩) (by first | (rw [add_block]; exact hn283_1) | (show (Addr.add _ _).block ≠ _; rw [add_block]; exact hn283_1) | exact hn283_1) (.float .f64 ((rd_T41 l0 x45_3).f1))).trans hx283_0; clear hn283_0; clear hn283_1; replace p283 := zu p283; replace q283 := zu q283));go_ret2;exact ⟨by first | rfl | (simp [errW_none, errW_some] <;> rfl) | (simp only [← hji5, ← hji15]; first | rfl | (simp [errW_none, errW_some] <;> rfl)) | (simp [*, errW_none, errW_some] <;> rfl), zB1 HB GE281⟩
       rw [zn c30] at H;have c30b0 : (flss (fmul x1_18 (rdOf 0 x6_8 (ji15))) (rdOf 0 x6_8 x45_3)) = false := by simpa using c30
       clear c30;have H' := zN H;clear H;have p280 : 0 ≤ (x45_3 : Int) := zd zS;have q280 : x45_3 < (l0.length : Int) := zd zS;obtain ⟨ad280, e280, hx280_0, hx280_1⟩ := at_T41 HR0.out x45_3 p280 q280;cases e280;replace hx280_0 := (HB.out.cell (zw w _ hx280_0)).trans hx280_0;replace hx280_1 := (HB.out.cell (zw w _ hx280_1)).trans hx280_1;replace p280 := zu p280;replace q280 := zu q280;go_wp2_with (first | ((with_reducible refine gate_dst (N := 12) rfl ?_); refine zX #[.string (⟨#[]⟩ : ByteArray), .float .f64 0] 41 rfl ?_; intro gb281 hg w33 hbox hb; replace HO_6 := zN (Kd.R_below (zR HO_6) hb); have BK281 := zN hbox; have GW281 := zY w (zB HB) hg; have GE281 := zY w (zB HB) hg; replace HB := zk HB hb; clear hb hbox hg; obtain ⟨hcz34_0, hcz34_1, hfz34_0, hfz34_1⟩ := zC2 BK281) | ((with_reducible refine gate_callee (f := 44) rfl ?_); refine zg (some 53) Tryz.func44 #[.float .f64 ((rd_T41 l0 x45_3).f1), .float .f64 x7_8] ?_; (with_reducible refine (plane_counts.calls ((rd_T41 l0 x45_3).f1) x7_8 t282 _ A26.out).mono ?_); rintro e w' ⟨rfl, ⟨nd, rfl⟩⟩; refine ⟨_, rfl, ?_⟩; have p283 : 0 ≤ (x45_3 : Int) := zd zS; have q283 : x45_3 < (x6_8.length : Int) := zd zS; obtain ⟨ad283, e283, hx283_0⟩ := Kd.at_float (Kd.R_reads' HO_6.out).2.2 x45_3 p283 q283; obtain rfl : ad279 = ad283 := (by injection e283); have hn283_0 : ad279.block ≠ gb281 := Kd.own_blk (Kd.R_ne HO_6.out BK281.out (by decide)); have hn283_1 : ad279.block ≠ gb281 := Kd.own_blk (Kd.R_ne HO_6.out BK281.out (by decide)); replace hx283_0 := (cell_far (p := ⟨gb281, 0, none⟩) (by first | (rw [add_block]; exact hn283_0) | (show (Addr.add _ _).block ≠ _; rw [add_block]; exact hn283_0) | exact hn283_0) (.string ((rd_T41 l0 x45_3).f0))).trans hx283_0; replace hx283_0 := (cell_far (p := ⟨gb281, 1, none⟩) (by first | (rw [add_block]; exact hn283_1) | (show (Addr.add _ _).block ≠ _; rw [add_block]; exact hn283_1) | exact hn283_1) (.float .f64 ((rd_T41 l0 x45_3).f1))).trans hx283_0; clear hn283_0; clear hn283_1; replace p283 := zu p283; replace q283 := zu q283));go_roundg k3
       case measure => have := HJ8.out; have := HJ18.out; have := HK3.out; omega
       case rel => exact ⟨(x45_3), (wrap64 (x45_3 + 1)), zI, zI, H', ⟨by have := HJ8.out; have := HJ18.out; have := HK3.out; omega⟩, ⟨by (with_reducible repeat (first | apply Kd.R_alloc | apply Kd.R_drewN | apply Kd.R_drew)); exact Kd.R_mono (Kd.R_far (p := ⟨gb281, 1, none⟩) (Kd.R_far (p := ⟨gb281, 0, none⟩) (Kd.R_types HO_6.out BK281.out (by decide)) (fun _ hk => hk.2) (.string ((rd_T41 l0 x45_3).f0))) (fun _ hk => hk.2) (.float .f64 ((rd_T41 l0 x45_3).f1))) (fun _ hk => trivial)⟩, ⟨zB1 HB GE281⟩⟩

def strings_CutPrefix.f (a0 a1 : ByteArray) : Option (ByteArray × Bool) := some (⟨(Lib.trimPrefix a0.data.toList a1.data.toList).toArray⟩, Lib.hasPrefix a0.data.toList a1.data.toList)
theorem strings_CutPrefix.calls (a0 a1 r1 : ByteArray) (r2 : Bool) (w : World) (h : strings_CutPrefix.f a0 a1 = some (r1, r2)) :
    Calls Tryz.prog 61 #[.string a0, .string a1] w fun e w' => e = .returned (.tuple #[.string r1, .bool r2]) ∧ Drawn0 w w' := by
  unfold strings_CutPrefix.f at h;simp only [Option.some.injEq, Prod.mk.injEq] at h;obtain ⟨rfl, rfl⟩ := h;exact (Tryz.strings_CutPrefix a0 a1 w).mono fun e w' ⟨h1, h2⟩ => ⟨h1, 0, h2⟩


def stringslite_HasSuffix.f (a0 : ByteArray) (a1 : ByteArray) : Option (Bool) := if (a0.size : Int) ≥ (a1.size : Int) then (if 0 ≤ (wrap64 ((a0.size : Int) - (a1.size : Int))) then (if (wrap64 ((a0.size : Int) - (a1.size : Int))) ≤ (a0.size : Int) then (some ((a0.extract ((wrap64 ((a0.size : Int) - (a1.size : Int))) : Int).toNat a0.size).toList == a1.toList)) else (none)) else (none)) else (some false)
set_option maxHeartbeats 8000000 in
set_option maxRecDepth 100000 in
theorem stringslite_HasSuffix.calls (a0 : ByteArray) (a1 : ByteArray) (r : Bool) (w : World) (h : stringslite_HasSuffix.f a0 a1 = some r) :
    Calls Tryz.prog 87 #[.string a0, .string a1] w fun e w' => e = .returned (.bool r) ∧ Drawn0 w w' := by
  have H : (if (a0.size : Int) ≥ (a1.size : Int) then (if 0 ≤ (wrap64 ((a0.size : Int) - (a1.size : Int))) then (if (wrap64 ((a0.size : Int) - (a1.size : Int))) ≤ (a0.size : Int) then (some ((a0.extract ((wrap64 ((a0.size : Int) - (a1.size : Int))) : Int).toNat a0.size).toList == a1.toList)) else (none)) else (none)) else (some false)) = some r := h;clear h;by_cases c3 : (a0.size : Int) ≥ (a1.size : Int);rotate_left
  · rw [zn c3] at H;have c3b0 : decide ((a1.size : Int) ≤ (a0.size : Int)) = false := zf c3;have c3b1 : decide (a1.size ≤ a0.size) = false := zf (fun h => c3 (Int.ofNat_le.mpr h));clear c3;obtain rfl := zo H;go_enter Tryz.func87, Tryz.ntmps87;go_wp2;go_ret;exact ⟨zI, zD⟩
  rw [zp c3] at H;have c3b0 : decide ((a1.size : Int) ≤ (a0.size : Int)) = true := zt c3;have c3b1 : decide (a1.size ≤ a0.size) = true := zt (Int.ofNat_le.mp c3);clear c3;obtain ⟨ji4, hji4⟩ : ∃ j_ : Int, (wrap64 ((a0.size : Int) - (a1.size : Int))) = j_ := ⟨_, rfl⟩;replace H : (if 0 ≤ (ji4) then (if (ji4) ≤ (a0.size : Int) then (some ((a0.extract ((ji4) : Int).toNat a0.size).toList == a1.toList)) else (none)) else (none)) = some r := by first | (rw [hji4] at H; exact H) | (simp only [hji4] at H ⊢; exact H)
  have hji4w : (IntKind.i64.wrap ((a0.size : Int) - (a1.size : Int))) = ji4 := (i64_w _).trans hji4;by_cases c5 : 0 ≤ (ji4);rotate_left
  · rw [zn c5] at H;exact absurd H (by simp)
  rw [zp c5] at H;have c5b0 := zu c5;have c5b1 := zt c5;clear c5;by_cases c6 : (ji4) ≤ (a0.size : Int)
  · rw [zp c6] at H;have c6b0 := zu c6;have c6b1 := zt c6;clear c6;obtain rfl := zo H;go_enter Tryz.func87, Tryz.ntmps87;go_wp2;go_ret;exact ⟨by first | rfl | (simp; done) | (simp only [← hji4] <;> (first | rfl | simp)) | (simp [*]; done), zD⟩
  rw [zn c6] at H;exact absurd H (by simp)

def strings_HasSuffix.f (a0 : ByteArray) (a1 : ByteArray) : Option (Bool) := (stringslite_HasSuffix.f a0 a1).bind fun t285 => (some t285)
set_option maxHeartbeats 8000000 in
set_option maxRecDepth 100000 in
theorem strings_HasSuffix.calls (a0 : ByteArray) (a1 : ByteArray) (r : Bool) (w : World) (h : strings_HasSuffix.f a0 a1 = some r) :
    Calls Tryz.prog 62 #[.string a0, .string a1] w fun e w' => e = .returned (.bool r) ∧ Drawn0 w w' := by
  have H : ((stringslite_HasSuffix.f a0 a1).bind fun t285 => (some t285)) = some r := h;clear h;obtain ⟨t285, A3, H⟩ := zA H;(try dsimp only at H);obtain rfl := zo H;go_enter Tryz.func62, Tryz.ntmps62;go_wp2_with (first | ((with_reducible refine gate_callee (f := 87) rfl ?_); refine zg (some 7) Tryz.func87 #[.string a0, .string a1] ?_; (with_reducible refine (stringslite_HasSuffix.calls a0 a1 t285 _ A3.out).mono ?_); rintro e w' ⟨rfl, ⟨nd, rfl⟩⟩; refine ⟨_, rfl, ?_⟩));go_ret;exact ⟨zI, zD⟩

def plane_fits.f (a0 : ByteArray) (a1 : ByteArray) : Option (Bool) := (strings_CutPrefix.f a1 a0).bind fun bt286 => (if bt286.2 = true then (if bt286.1.toList = ([] : List UInt8) then (some true) else ((strings_HasSuffix.f a0 (⟨#[47]⟩ : ByteArray)).bind fun t288 => (if t288 = true then (some true) else (if 0 < (bt286.1.size : Int) then (some ((bt bt286.1 0) == 47)) else (none))))) else (some false))
set_option maxHeartbeats 8000000 in
set_option maxRecDepth 100000 in
theorem plane_fits.calls (a0 : ByteArray) (a1 : ByteArray) (r : Bool) (w : World) (h : plane_fits.f a0 a1 = some r) :
    Calls Tryz.prog 45 #[.string a0, .string a1] w fun e w' => e = .returned (.bool r) ∧ Drawn0 w w' := by
  have H : ((strings_CutPrefix.f a1 a0).bind fun bt286 => (if bt286.2 = true then (if bt286.1.toList = ([] : List UInt8) then (some true) else ((strings_HasSuffix.f a0 (⟨#[47]⟩ : ByteArray)).bind fun t288 => (if t288 = true then (some true) else (if 0 < (bt286.1.size : Int) then (some ((bt bt286.1 0) == 47)) else (none))))) else (some false))) = some r := h;clear h;obtain ⟨⟨t286, t287⟩, A3, H⟩ := zA H;(try dsimp only at H);by_cases c4 : t287 = true;rotate_left
  · replace c4 := zq.mpr c4;subst c4;have H1 := H; rw [zn (show ¬ (false = true) by decide)] at H1;clear H;have H := H1;clear H1;obtain rfl := zo H;go_enter Tryz.func45, Tryz.ntmps45;go_wp2_with (first | ((with_reducible refine gate_callee (f := 61) rfl ?_); refine zg (some 10) Tryz.func61 #[.string a1, .string a0] ?_; (with_reducible refine (strings_CutPrefix.calls a1 a0 t286 false _ A3.out).mono ?_); rintro e w' ⟨rfl, ⟨nd, rfl⟩⟩; refine ⟨_, rfl, ?_⟩));go_ret;exact ⟨zI, zD⟩
  subst c4;have H1 := H; rw [zp rfl] at H1;clear H;have H := H1;clear H1;by_cases c5 : t286.toList = ([] : List UInt8)
  · rw [zp c5] at H;have c5b0 := beq_iff_eq.mpr c5;have c5b1 := zc.mpr c5;clear c5;obtain rfl := zo H;go_enter Tryz.func45, Tryz.ntmps45;go_wp2_with (first | ((with_reducible refine gate_callee (f := 61) rfl ?_); refine zg (some 10) Tryz.func61 #[.string a1, .string a0] ?_; (with_reducible refine (strings_CutPrefix.calls a1 a0 t286 true _ A3.out).mono ?_); rintro e w' ⟨rfl, ⟨nd, rfl⟩⟩; refine ⟨_, rfl, ?_⟩));go_ret;exact ⟨zI, zD⟩
  rw [zn c5] at H;have c5b0 := zb.mpr c5;have c5b1 := bne_iff_ne.mpr c5;obtain ⟨t288, A6, H⟩ := zA H;(try dsimp only at H);by_cases c7 : t288 = true
  · subst c7;have H1 := H; rw [zp rfl] at H1;clear H;have H := H1;clear H1;obtain rfl := zo H;go_enter Tryz.func45, Tryz.ntmps45;go_wp2_with (first | ((with_reducible refine gate_callee (f := 61) rfl ?_); refine zg (some 10) Tryz.func61 #[.string a1, .string a0] ?_; (with_reducible refine (strings_CutPrefix.calls a1 a0 t286 true _ A3.out).mono ?_); rintro e w' ⟨rfl, ⟨nd, rfl⟩⟩; refine ⟨_, rfl, ?_⟩) | (go_at_call 62; (with_reducible refine (strings_HasSuffix.calls a0 (⟨#[47]⟩ : ByteArray) true _ A6.out).mono ?_); rintro e w' ⟨rfl, ⟨nd, rfl⟩⟩));go_ret;exact ⟨zI, zD⟩
  replace c7 := zq.mpr c7;subst c7;have H1 := H; rw [zn (show ¬ (false = true) by decide)] at H1;clear H;have H := H1;clear H1;by_cases c8 : 0 < (t286.size : Int)
  · rw [zp c8] at H;have c8b0 := zt c8;have c8b1 : decide (0 < t286.size) = true := zt zO;clear c8;obtain rfl := zo H;go_enter Tryz.func45, Tryz.ntmps45;go_wp2_with (first | ((with_reducible refine gate_callee (f := 61) rfl ?_); refine zg (some 10) Tryz.func61 #[.string a1, .string a0] ?_; (with_reducible refine (strings_CutPrefix.calls a1 a0 t286 true _ A3.out).mono ?_); rintro e w' ⟨rfl, ⟨nd, rfl⟩⟩; refine ⟨_, rfl, ?_⟩) | (go_at_call 62; (with_reducible refine (strings_HasSuffix.calls a0 (⟨#[47]⟩ : ByteArray) false _ A6.out).mono ?_); rintro e w' ⟨rfl, ⟨nd, rfl⟩⟩; have p9 : 0 ≤ (0 : Int) := zO; have q9 : 0 < t286.size := (by have : (0 : Int) < (t286.size : Int) := zd zS; omega); have hx9 : ∀ h : 0 < t286.size, ((t286[0]'h).toNat : Int) = bt t286 0 := bt_at t286 0; clear p9; have qi9 : (0 < (t286.size : Int)) = True := zu (zd zS); replace q9 := zu q9));go_ret;exact ⟨zI, zD⟩
  rw [zn c8] at H;exact absurd H (by simp)

end Go.Proofs.YtahaihnlkohhgaaGreatDoor.S
end
