/- Walks and plain facts, joined out of several texts: what the row of PlaneServes leads to. -/
import Derived.Test.YtahaihnlkohhgaaGreatDoorPkPlaneServes5
import Derived.Lib.LazyBuf
section
namespace Go.Proofs.YtahaihnlkohhgaaGreatDoor.S
open Go.RowKit Go.Proofs.YtahaihnlkohhgaaGreatDoorW.PrintWords Go.Proofs.YtahaihnlkohhgaaGreatDoorW.PrintLast Go.Proofs.YtahaihnlkohhgaaGreatDoorW.PrintMore
attribute [local go_sem] max2_int min2_int max_two min_two max_three min_three max_four min_four
attribute [local go_sem] fbin_eql fbin_neq fbin_lss fbin_leq fbin_gtr fbin_geq frun_add frun_sub frun_mul frun_quo frun_store fun_neg fcv_int fcv_same fb41 fb85
set_option linter.unusedVariables false
set_option linter.unusedSimpArgs false
mutual
def head_Parse.j0 : Nat → Int → List ByteArray → Int → Int → ByteArray → ByteArray → Bool → ByteArray → ByteArray → ByteArray → ByteArray → Option (ByteArray × ByteArray × ByteArray × ByteArray × (List (S84)) × Int × Int)
  | 0, _, _, _, _, _, _, _, _, _, _, _ => none
  | k + 1, x5, x6, x9, x10, x11, x12, x75, x364000, x364001, x364002, x364003 => if x75 = true then (some ((⟨#[]⟩ : ByteArray), (⟨#[]⟩ : ByteArray), (⟨#[]⟩ : ByteArray), (⟨#[]⟩ : ByteArray), ([] : List (S84)), 0, 4)) else (head_Parse.l0 k x5 x6 x9 x10 x11 x12 x364001 x364002 x364003 ([] : List (S84)))
def head_Parse.l0 : Nat → Int → List ByteArray → Int → Int → ByteArray → ByteArray → ByteArray → ByteArray → ByteArray → List (S84) → Option (ByteArray × ByteArray × ByteArray × ByteArray × (List (S84)) × Int × Int)
  | 0, _, _, _, _, _, _, _, _, _, _ => none
  | k + 1, x5, x6, x9, x10, x11, x364000, x364001, x364002, x364003, x364004 => if x10 < (x6.length : Int) then (if 0 ≤ x10 then ((strings_Cut.f (rdOf ByteArray.empty x6 x10) (⟨#[58]⟩ : ByteArray)).bind fun bt377 => ((strings_Trim.f bt377.2.1 (⟨#[9, 32]⟩ : ByteArray)).bind fun t380 => (if bt377.2.2 = true then ((head_token.f k bt377.1).bind fun t381 => (if t381 = true then ((head_value.f k t380).bind fun t382 => (head_Parse.j2 k x5 x6 x9 x10 x11 bt377.1 t380 (!t382) x364000 x364001 x364002 x364003 x364004)) else (head_Parse.j2 k x5 x6 x9 x10 x11 bt377.1 t380 true x364000 x364001 x364002 x364003 x364004))) else (head_Parse.j2 k x5 x6 x9 x10 x11 bt377.1 t380 true x364000 x364001 x364002 x364003 x364004)))) else (none)) else (if x9 = 1 then (if (x364004.length : Int) > 32 then (some ((⟨#[]⟩ : ByteArray), (⟨#[]⟩ : ByteArray), (⟨#[]⟩ : ByteArray), (⟨#[]⟩ : ByteArray), ([] : List (S84)), 0, 6)) else (if x364003.toList = ([] : List UInt8) then (some (x364000, x364001, x364002, x11, x364004, wrap64 (x5 + 4), 0)) else (some (x364000, x364001, x364002, x364003, x364004, wrap64 (x5 + 4), 0)))) else (some ((⟨#[]⟩ : ByteArray), (⟨#[]⟩ : ByteArray), (⟨#[]⟩ : ByteArray), (⟨#[]⟩ : ByteArray), ([] : List (S84)), 0, 4)))
def head_Parse.j2 : Nat → Int → List ByteArray → Int → Int → ByteArray → ByteArray → ByteArray → Bool → ByteArray → ByteArray → ByteArray → ByteArray → List (S84) → Option (ByteArray × ByteArray × ByteArray × ByteArray × (List (S84)) × Int × Int)
  | 0, _, _, _, _, _, _, _, _, _, _, _, _, _ => none
  | k + 1, x5, x6, x9, x10, x11, x18, x19, x104, x364000, x364001, x364002, x364003, x364004 => if x104 = true then (some ((⟨#[]⟩ : ByteArray), (⟨#[]⟩ : ByteArray), (⟨#[]⟩ : ByteArray), (⟨#[]⟩ : ByteArray), ([] : List (S84)), 0, 4)) else ((head_lower.f x18).bind fun t383 => (if x364004.length < 4398046511104 then ((some (x364004 ++ [(⟨t383, x19⟩ : S84)] : List (S84))).bind fun y384 => ((head_lower.f x18).bind fun t387 => (if t387.toList = ([104, 111, 115, 116] : List UInt8) then ((head_Host.f k x19).bind fun bt388 => (if bt388.2 = true then (head_Parse.l0 k x5 x6 (wrap64 (x9 + 1)) (wrap64 (x10 + 1)) bt388.1 x364000 x364001 x364002 x364003 y384) else (some ((⟨#[]⟩ : ByteArray), (⟨#[]⟩ : ByteArray), (⟨#[]⟩ : ByteArray), (⟨#[]⟩ : ByteArray), ([] : List (S84)), 0, 4)))) else (head_Parse.l0 k x5 x6 x9 (wrap64 (x10 + 1)) x11 x364000 x364001 x364002 x364003 y384)))) else (none)))
end
def head_Parse.f (k : Nat) (l0 : List Int) : Option (ByteArray × ByteArray × ByteArray × ByteArray × (List (S84)) × Int × Int) := if 0 ≤ (mn (l0.length : Int) 2048) then (if (mn (l0.length : Int) 2048) ≤ (l0.length : Int) then ((bytes_Index.f (l0.take ((mn (l0.length : Int) 2048) : Int).toNat) (([13, 10, 13, 10] : List Int))).bind fun t358 => (if t358 < 0 then (if (l0.length : Int) < 2048 then (some ((⟨#[]⟩ : ByteArray), (⟨#[]⟩ : ByteArray), (⟨#[]⟩ : ByteArray), (⟨#[]⟩ : ByteArray), ([] : List (S84)), 0, 3)) else (some ((⟨#[]⟩ : ByteArray), (⟨#[]⟩ : ByteArray), (⟨#[]⟩ : ByteArray), (⟨#[]⟩ : ByteArray), ([] : List (S84)), 0, 6))) else (if 0 ≤ t358 then (if t358 ≤ (l0.length : Int) then ((strings_Split.f (strOfNums (l0.take (t358 : Int).toNat)) (⟨#[13, 10]⟩ : ByteArray)).bind fun t360 => (if 0 < (t360.length : Int) then ((strings_Cut.f (rdOf ByteArray.empty t360 0) (⟨#[32]⟩ : ByteArray)).bind fun bt365 => ((strings_Cut.f bt365.2.1 (⟨#[32]⟩ : ByteArray)).bind fun bt368 => ((head_target.f k bt368.1).bind fun bt371 => (if bt371.2.2.2 = true then ((head_token.f k bt365.1).bind fun t375 => (if t375 = true then (head_Parse.j0 k t358 t360 0 1 (⟨#[]⟩ : ByteArray) bt365.1 (bt368.2.1.toList != ([72, 84, 84, 80, 47, 49, 46, 49] : List UInt8)) (⟨#[]⟩ : ByteArray) bt371.1 bt371.2.1 bt371.2.2.1) else (head_Parse.j0 k t358 t360 0 1 (⟨#[]⟩ : ByteArray) bt365.1 true (⟨#[]⟩ : ByteArray) bt371.1 bt371.2.1 bt371.2.2.1))) else (head_Parse.j0 k t358 t360 0 1 (⟨#[]⟩ : ByteArray) bt365.1 true (⟨#[]⟩ : ByteArray) bt371.1 bt371.2.1 bt371.2.2.1))))) else (none))) else (none)) else (none)))) else (none)) else (none)
theorem head_Parse.mono_l : ∀ k, (∀ y0 y1 y2 y3 y4 y5 y6 y7 y8 y9 y10, LeO (head_Parse.j0 k y0 y1 y2 y3 y4 y5 y6 y7 y8 y9 y10) (head_Parse.j0 (k + 1) y0 y1 y2 y3 y4 y5 y6 y7 y8 y9 y10)) ∧ (∀ y0 y1 y2 y3 y4 y5 y6 y7 y8 y9, LeO (head_Parse.l0 k y0 y1 y2 y3 y4 y5 y6 y7 y8 y9) (head_Parse.l0 (k + 1) y0 y1 y2 y3 y4 y5 y6 y7 y8 y9)) ∧ (∀ y0 y1 y2 y3 y4 y5 y6 y7 y8 y9 y10 y11 y12, LeO (head_Parse.j2 k y0 y1 y2 y3 y4 y5 y6 y7 y8 y9 y10 y11 y12) (head_Parse.j2 (k + 1) y0 y1 y2 y3 y4 y5 y6 y7 y8 y9 y10 y11 y12))
  | 0 => ⟨fun _ _ _ _ _ _ _ _ _ _ _ r h => by simp [head_Parse.j0] at h, fun _ _ _ _ _ _ _ _ _ _ r h => by simp [head_Parse.l0] at h, fun _ _ _ _ _ _ _ _ _ _ _ _ _ r h => by simp [head_Parse.j2] at h⟩
  | k + 1 => by
    obtain ⟨ih0, ih1, ih2⟩ := head_Parse.mono_l k;refine ⟨?_, ?_, ?_⟩
    · intro y0 y1 y2 y3 y4 y5 y6 y7 y8 y9 y10;unfold head_Parse.j0
      repeat' with_reducible first | exact ih0 _ _ _ _ _ _ _ _ _ _ _ | exact ih1 _ _ _ _ _ _ _ _ _ _ | exact ih2 _ _ _ _ _ _ _ _ _ _ _ _ _ | exact head_Host.mono _ _ | exact head_target.mono _ _ | exact head_token.mono _ _ | exact head_value.mono _ _ | exact LeO.refl _ | exact LeO.none _ | refine LeO.ite ?_ ?_ | refine LeO.bind ?_ (fun _ => ?_)
    · intro y0 y1 y2 y3 y4 y5 y6 y7 y8 y9;unfold head_Parse.l0
      repeat' with_reducible first | exact ih0 _ _ _ _ _ _ _ _ _ _ _ | exact ih1 _ _ _ _ _ _ _ _ _ _ | exact ih2 _ _ _ _ _ _ _ _ _ _ _ _ _ | exact head_Host.mono _ _ | exact head_target.mono _ _ | exact head_token.mono _ _ | exact head_value.mono _ _ | exact LeO.refl _ | exact LeO.none _ | refine LeO.ite ?_ ?_ | refine LeO.bind ?_ (fun _ => ?_)
    intro y0 y1 y2 y3 y4 y5 y6 y7 y8 y9 y10 y11 y12;unfold head_Parse.j2
    repeat' with_reducible first | exact ih0 _ _ _ _ _ _ _ _ _ _ _ | exact ih1 _ _ _ _ _ _ _ _ _ _ | exact ih2 _ _ _ _ _ _ _ _ _ _ _ _ _ | exact head_Host.mono _ _ | exact head_target.mono _ _ | exact head_token.mono _ _ | exact head_value.mono _ _ | exact LeO.refl _ | exact LeO.none _ | refine LeO.ite ?_ ?_ | refine LeO.bind ?_ (fun _ => ?_)
theorem head_Parse.mono : ∀ a0 k, LeO (head_Parse.f k a0) (head_Parse.f (k + 1) a0) := by
  intro a0 k;obtain ⟨ih0, ih1, ih2⟩ := head_Parse.mono_l k;unfold head_Parse.f
  repeat' with_reducible first | exact ih0 _ _ _ _ _ _ _ _ _ _ _ | exact ih1 _ _ _ _ _ _ _ _ _ _ | exact ih2 _ _ _ _ _ _ _ _ _ _ _ _ _ | exact head_Host.mono _ _ | exact head_target.mono _ _ | exact head_token.mono _ _ | exact head_value.mono _ _ | exact LeO.refl _ | exact LeO.none _ | refine LeO.ite ?_ ?_ | refine LeO.bind ?_ (fun _ => ?_)
def head_Parse.T19 : Bool × List (List Nat × List Nat) := (true, [([], []), ([0], [0]), ([], []), ([2], [2]), ([], []), ([3, 4], [3, 4]), ([5], [5]), ([1, 6, 3], [1, 6]), ([0, 1, 2, 3, 4, 5, 6, 7], []), ([8, 7, 7, 0, 1, 2, 3, 4, 5, 6, 7], [7, 8])])
def head_Parse.B19 : List Nat := [0, 1, 0, 4, 0, 28, 60, 127, 255, 511]
theorem head_Parse.tab19 : rtab .any (opsOf Tryz.f27 19) = head_Parse.T19 := by kernel_rfl
theorem head_Parse.bits19 : waitsOk head_Parse.T19.2 head_Parse.B19 = true := by kernel_rfl
set_option maxRecDepth 100000 in
theorem head_Parse.loop1 {P : Program} {r1 : Code} {Q : Exit → Act → World → Prop} {K0 : Act → World → Prop} {w : World} {e0 e1 e2 e3 e4 e5 e6 e7 e8 e9 e10 e11 e12 e13 e14 e15 e16 e17 e18 e19 e20 e21 e22 e23 e24 e25 e26 e27 e28 e29 e30 e31 e32 e33 e34 e35 e36 e37 e38 e39 e40 e41 e42 e43 e44 e45 e46 e47 e48 e49 e50 e51 e52 e53 e54 e55 e56 e57 e58 e59 e60 e61 e62 e63 e64 e65 e66 e67 e68 e69 e70 e71 e72 e73 e74 e75 e76 e77 e78 e79 e80 e81 e82 e83 e84 e85 e86 e87 e88 e89 e90 e91 e92 e93 e94 e95 e96 e97 e98 e99 e100 e101 e102 e103 e104 e105 e106 e107 e108 e109 e110 e111 e112 e113 e114 e115 e116 e117 e118 e119 e120 e121 e122 e123 e124 e125 e126 e127 e128 e129 e130 e131 e132 e133 e134 e135 e136 e137 e138 e139 e140 e141 e142 e143 : Value} (n₀ : Nat) (rel : Nat → Value → Value → Value → World → Prop) (h₀ : rel n₀ e9 e10 e11 w)
    (round : ∀ (gk : Nat) (wr : World) (u9 u10 u11 u18 u19 u20 u78 u79 u80 u81 u82 u83 u84 u85 u86 u87 u88 u89 u90 u91 u92 u93 u94 u95 u96 u97 u98 u99 u100 u101 u102 u103 u104 u105 u106 u107 u108 u109 u110 u111 u112 u113 u114 u115 u116 u117 u118 u119 u120 u121 u122 u123 u124 u125 u126 u127 : Value), rel gk u9 u10 u11 wr → ∀ (J : Nat → Act → World → Prop) (K : Act → World → Prop), (∀ k' a' w', (∃ u9 u10 u11 u18 u19 u20 u78 u79 u80 u81 u82 u83 u84 u85 u86 u87 u88 u89 u90 u91 u92 u93 u94 u95 u96 u97 u98 u99 u100 u101 u102 u103 u104 u105 u106 u107 u108 u109 u110 u111 u112 u113 u114 u115 u116 u117 u118 u119 u120 u121 u122 u123 u124 u125 u126 u127 : Value, rel k' u9 u10 u11 w' ∧ a' = { tmps := #[e0, e1, e2, e3, e4, e5, e6, e7, e8, u9, u10, u11, e12, e13, e14, e15, e16, e17, u18, u19, u20, e21, e22, e23, e24, e25, e26, e27, e28, e29, e30, e31, e32, e33, e34, e35, e36, e37, e38, e39, e40, e41, e42, e43, e44, e45, e46, e47, e48, e49, e50, e51, e52, e53, e54, e55, e56, e57, e58, e59, e60, e61, e62, e63, e64, e65, e66, e67, e68, e69, e70, e71, e72, e73, e74, e75, e76, e77, u78, u79, u80, u81, u82, u83, u84, u85, u86, u87, u88, u89, u90, u91, u92, u93, u94, u95, u96, u97, u98, u99, u100, u101, u102, u103, u104, u105, u106, u107, u108, u109, u110, u111, u112, u113, u114, u115, u116, u117, u118, u119, u120, u121, u122, u123, u124, u125, u126, u127, e128, e129, e130, e131, e132, e133, e134, e135, e136, e137, e138, e139, e140, e141, e142, e143], defers := [] }) → J k' a' w') → (∀ a' w', Handed J gk a' w' → K a' w') → r1.wp P (Exit.two Q K0 K) { tmps := #[e0, e1, e2, e3, e4, e5, e6, e7, e8, u9, u10, u11, e12, e13, e14, e15, e16, e17, u18, u19, u20, e21, e22, e23, e24, e25, e26, e27, e28, e29, e30, e31, e32, e33, e34, e35, e36, e37, e38, e39, e40, e41, e42, e43, e44, e45, e46, e47, e48, e49, e50, e51, e52, e53, e54, e55, e56, e57, e58, e59, e60, e61, e62, e63, e64, e65, e66, e67, e68, e69, e70, e71, e72, e73, e74, e75, e76, e77, u78, u79, u80, u81, u82, u83, u84, u85, u86, u87, u88, u89, u90, u91, u92, u93, u94, u95, u96, u97, u98, u99, u100, u101, u102, u103, u104, u105, u106, u107, u108, u109, u110, u111, u112, u113, u114, u115, u116, u117, u118, u119, u120, u121, u122, u123, u124, u125, u126, u127, e128, e129, e130, e131, e132, e133, e134, e135, e136, e137, e138, e139, e140, e141, e142, e143], defers := [] } wr) :
    Scope.LW P r1 K0 Q { tmps := #[e0, e1, e2, e3, e4, e5, e6, e7, e8, e9, e10, e11, e12, e13, e14, e15, e16, e17, e18, e19, e20, e21, e22, e23, e24, e25, e26, e27, e28, e29, e30, e31, e32, e33, e34, e35, e36, e37, e38, e39, e40, e41, e42, e43, e44, e45, e46, e47, e48, e49, e50, e51, e52, e53, e54, e55, e56, e57, e58, e59, e60, e61, e62, e63, e64, e65, e66, e67, e68, e69, e70, e71, e72, e73, e74, e75, e76, e77, e78, e79, e80, e81, e82, e83, e84, e85, e86, e87, e88, e89, e90, e91, e92, e93, e94, e95, e96, e97, e98, e99, e100, e101, e102, e103, e104, e105, e106, e107, e108, e109, e110, e111, e112, e113, e114, e115, e116, e117, e118, e119, e120, e121, e122, e123, e124, e125, e126, e127, e128, e129, e130, e131, e132, e133, e134, e135, e136, e137, e138, e139, e140, e141, e142, e143], defers := [] } w := by
  refine ⟨fun k' a' w' => ∃ u9 u10 u11 u18 u19 u20 u78 u79 u80 u81 u82 u83 u84 u85 u86 u87 u88 u89 u90 u91 u92 u93 u94 u95 u96 u97 u98 u99 u100 u101 u102 u103 u104 u105 u106 u107 u108 u109 u110 u111 u112 u113 u114 u115 u116 u117 u118 u119 u120 u121 u122 u123 u124 u125 u126 u127 : Value, rel k' u9 u10 u11 w' ∧ a' = { tmps := #[e0, e1, e2, e3, e4, e5, e6, e7, e8, u9, u10, u11, e12, e13, e14, e15, e16, e17, u18, u19, u20, e21, e22, e23, e24, e25, e26, e27, e28, e29, e30, e31, e32, e33, e34, e35, e36, e37, e38, e39, e40, e41, e42, e43, e44, e45, e46, e47, e48, e49, e50, e51, e52, e53, e54, e55, e56, e57, e58, e59, e60, e61, e62, e63, e64, e65, e66, e67, e68, e69, e70, e71, e72, e73, e74, e75, e76, e77, u78, u79, u80, u81, u82, u83, u84, u85, u86, u87, u88, u89, u90, u91, u92, u93, u94, u95, u96, u97, u98, u99, u100, u101, u102, u103, u104, u105, u106, u107, u108, u109, u110, u111, u112, u113, u114, u115, u116, u117, u118, u119, u120, u121, u122, u123, u124, u125, u126, u127, e128, e129, e130, e131, e132, e133, e134, e135, e136, e137, e138, e139, e140, e141, e142, e143], defers := [] }, n₀, ⟨e9, e10, e11, e18, e19, e20, e78, e79, e80, e81, e82, e83, e84, e85, e86, e87, e88, e89, e90, e91, e92, e93, e94, e95, e96, e97, e98, e99, e100, e101, e102, e103, e104, e105, e106, e107, e108, e109, e110, e111, e112, e113, e114, e115, e116, e117, e118, e119, e120, e121, e122, e123, e124, e125, e126, e127, h₀, rfl⟩, fun n a w hI => ?_⟩;obtain ⟨u9, u10, u11, u18, u19, u20, u78, u79, u80, u81, u82, u83, u84, u85, u86, u87, u88, u89, u90, u91, u92, u93, u94, u95, u96, u97, u98, u99, u100, u101, u102, u103, u104, u105, u106, u107, u108, u109, u110, u111, u112, u113, u114, u115, u116, u117, u118, u119, u120, u121, u122, u123, u124, u125, u126, u127, hr, rfl⟩ := hI;exact round n w u9 u10 u11 u18 u19 u20 u78 u79 u80 u81 u82 u83 u84 u85 u86 u87 u88 u89 u90 u91 u92 u93 u94 u95 u96 u97 u98 u99 u100 u101 u102 u103 u104 u105 u106 u107 u108 u109 u110 u111 u112 u113 u114 u115 u116 u117 u118 u119 u120 u121 u122 u123 u124 u125 u126 u127 hr _ _ (fun _ _ _ h => h) (fun _ _ h => h)
set_option maxHeartbeats 8000000 in
set_option maxRecDepth 100000 in
theorem head_Parse.calls (k : Nat) (A0 : Option Addr) (c0 : Nat) (l0 : List Int) (r1 : ByteArray) (r2 : ByteArray) (r3 : ByteArray) (r4 : ByteArray) (r5 : List (S84)) (r6 : Int) (r7 : Int) (w : World) (hml : ML w) (hr0 : Kd.C (Kd.int .u8) w A0 l0.length l0) (hc0 : l0.length ≤ c0) (h : head_Parse.f k l0 = some (r1, r2, r3, r4, r5, r6, r7)) :
    Calls Tryz.prog 27 #[.slice A0 l0.length c0] w fun e w' => ∃ v4_ : Value, e = .returned (.tuple #[.agg #[.string r1, .string r2, .string r3, .string r4, v4_], .int .i64 r6, .int .i64 r7]) ∧ Kd.R k84 84 w' w.heap.size (fun _ => True) v4_ r5 ∧ Below w.heap.size w w' := by
  have HML := zN hml;clear hml;have kcb := fun (w_ : World) (C_ : Array Value) (n_ c_ : Nat) => Lib.run_convert_bytes_const (P := Tryz.prog) w_ 29 5 C_ n_ c_ Tryz.underlying29 Tryz.underlying5
  have hu57 := Tryz.underlying57;have hu84 := Tryz.underlying84;have HR0 := zN hr0;have HC0 := zN hc0;clear hr0 hc0;have HB := zN (Below.refl w.heap.size w);have H : (if 0 ≤ (mn (l0.length : Int) 2048) then (if (mn (l0.length : Int) 2048) ≤ (l0.length : Int) then ((bytes_Index.f (l0.take ((mn (l0.length : Int) 2048) : Int).toNat) (([13, 10, 13, 10] : List Int))).bind fun t358 => (if t358 < 0 then (if (l0.length : Int) < 2048 then (some ((⟨#[]⟩ : ByteArray), (⟨#[]⟩ : ByteArray), (⟨#[]⟩ : ByteArray), (⟨#[]⟩ : ByteArray), ([] : List (S84)), 0, 3)) else (some ((⟨#[]⟩ : ByteArray), (⟨#[]⟩ : ByteArray), (⟨#[]⟩ : ByteArray), (⟨#[]⟩ : ByteArray), ([] : List (S84)), 0, 6))) else (if 0 ≤ t358 then (if t358 ≤ (l0.length : Int) then ((strings_Split.f (strOfNums (l0.take (t358 : Int).toNat)) (⟨#[13, 10]⟩ : ByteArray)).bind fun t360 => (if 0 < (t360.length : Int) then ((strings_Cut.f (rdOf ByteArray.empty t360 0) (⟨#[32]⟩ : ByteArray)).bind fun bt365 => ((strings_Cut.f bt365.2.1 (⟨#[32]⟩ : ByteArray)).bind fun bt368 => ((head_target.f k bt368.1).bind fun bt371 => (if bt371.2.2.2 = true then ((head_token.f k bt365.1).bind fun t375 => (if t375 = true then (head_Parse.j0 k t358 t360 0 1 (⟨#[]⟩ : ByteArray) bt365.1 (bt368.2.1.toList != ([72, 84, 84, 80, 47, 49, 46, 49] : List UInt8)) (⟨#[]⟩ : ByteArray) bt371.1 bt371.2.1 bt371.2.2.1) else (head_Parse.j0 k t358 t360 0 1 (⟨#[]⟩ : ByteArray) bt365.1 true (⟨#[]⟩ : ByteArray) bt371.1 bt371.2.1 bt371.2.2.1))) else (head_Parse.j0 k t358 t360 0 1 (⟨#[]⟩ : ByteArray) bt365.1 true (⟨#[]⟩ : ByteArray) bt371.1 bt371.2.1 bt371.2.2.1))))) else (none))) else (none)) else (none)))) else (none)) else (none)) = some (r1, r2, r3, r4, r5, r6, r7) := h;clear h;obtain ⟨ji2, hji2⟩ : ∃ j_ : Int, (mn (l0.length : Int) 2048) = j_ := ⟨_, rfl⟩;replace H : (if 0 ≤ (ji2) then (if (ji2) ≤ (l0.length : Int) then ((bytes_Index.f (l0.take ((ji2) : Int).toNat) (([13, 10, 13, 10] : List Int))).bind fun t358 => (if t358 < 0 then (if (l0.length : Int) < 2048 then (some ((⟨#[]⟩ : ByteArray), (⟨#[]⟩ : ByteArray), (⟨#[]⟩ : ByteArray), (⟨#[]⟩ : ByteArray), ([] : List (S84)), 0, 3)) else (some ((⟨#[]⟩ : ByteArray), (⟨#[]⟩ : ByteArray), (⟨#[]⟩ : ByteArray), (⟨#[]⟩ : ByteArray), ([] : List (S84)), 0, 6))) else (if 0 ≤ t358 then (if t358 ≤ (l0.length : Int) then ((strings_Split.f (strOfNums (l0.take (t358 : Int).toNat)) (⟨#[13, 10]⟩ : ByteArray)).bind fun t360 => (if 0 < (t360.length : Int) then ((strings_Cut.f (rdOf ByteArray.empty t360 0) (⟨#[32]⟩ : ByteArray)).bind fun bt365 => ((strings_Cut.f bt365.2.1 (⟨#[32]⟩ : ByteArray)).bind fun bt368 => ((head_target.f k bt368.1).bind fun bt371 => (if bt371.2.2.2 = true then ((head_token.f k bt365.1).bind fun t375 => (if t375 = true then (head_Parse.j0 k t358 t360 0 1 (⟨#[]⟩ : ByteArray) bt365.1 (bt368.2.1.toList != ([72, 84, 84, 80, 47, 49, 46, 49] : List UInt8)) (⟨#[]⟩ : ByteArray) bt371.1 bt371.2.1 bt371.2.2.1) else (head_Parse.j0 k t358 t360 0 1 (⟨#[]⟩ : ByteArray) bt365.1 true (⟨#[]⟩ : ByteArray) bt371.1 bt371.2.1 bt371.2.2.1))) else (head_Parse.j0 k t358 t360 0 1 (⟨#[]⟩ : ByteArray) bt365.1 true (⟨#[]⟩ : ByteArray) bt371.1 bt371.2.1 bt371.2.2.1))))) else (none))) else (none)) else (none)))) else (none)) else (none)) = some (r1, r2, r3, r4, r5, r6, r7) := by first | (rw [hji2] at H; exact H) | (simp only [hji2] at H ⊢; exact H)
  (try (have hji2h : ji2 ≤ 2048 := by (rw [← hji2]; unfold mn; (repeat' split) <;> omega)));(try (have hji2g : ji2 ≤ 64 := zO));(try (have hji2l : 0 ≤ ji2 := by (rw [← hji2]; unfold mn; (repeat' split) <;> omega)));(try (have hji2m : 0 ≤ ji2 := zO));have hji2_ : (if 2048 < (l0.length : Int) then 2048 else (l0.length : Int)) = ji2 := hji2;by_cases c3 : 0 ≤ (ji2);rotate_left
  · rw [zn c3] at H;exact absurd H (by simp)
  rw [zp c3] at H;have c3b0 := zu c3;have c3b1 := zt c3;clear c3;by_cases c4 : (ji2) ≤ (l0.length : Int);rotate_left
  · rw [zn c4] at H;exact absurd H (by simp)
  rw [zp c4] at H;have c4b0 := zu c4;have c4b1 := zt c4;clear c4;obtain ⟨y355, hy355⟩ : ∃ y_ : List Int, y_ = (([13, 10, 13, 10] : List Int)) := ⟨_, rfl⟩;replace H : ((bytes_Index.f (l0.take ((ji2) : Int).toNat) y355).bind fun t358 => (if t358 < 0 then (if (l0.length : Int) < 2048 then (some ((⟨#[]⟩ : ByteArray), (⟨#[]⟩ : ByteArray), (⟨#[]⟩ : ByteArray), (⟨#[]⟩ : ByteArray), ([] : List (S84)), 0, 3)) else (some ((⟨#[]⟩ : ByteArray), (⟨#[]⟩ : ByteArray), (⟨#[]⟩ : ByteArray), (⟨#[]⟩ : ByteArray), ([] : List (S84)), 0, 6))) else (if 0 ≤ t358 then (if t358 ≤ (l0.length : Int) then ((strings_Split.f (strOfNums (l0.take (t358 : Int).toNat)) (⟨#[13, 10]⟩ : ByteArray)).bind fun t360 => (if 0 < (t360.length : Int) then ((strings_Cut.f (rdOf ByteArray.empty t360 0) (⟨#[32]⟩ : ByteArray)).bind fun bt365 => ((strings_Cut.f bt365.2.1 (⟨#[32]⟩ : ByteArray)).bind fun bt368 => ((head_target.f k bt368.1).bind fun bt371 => (if bt371.2.2.2 = true then ((head_token.f k bt365.1).bind fun t375 => (if t375 = true then (head_Parse.j0 k t358 t360 0 1 (⟨#[]⟩ : ByteArray) bt365.1 (bt368.2.1.toList != ([72, 84, 84, 80, 47, 49, 46, 49] : List UInt8)) (⟨#[]⟩ : ByteArray) bt371.1 bt371.2.1 bt371.2.2.1) else (head_Parse.j0 k t358 t360 0 1 (⟨#[]⟩ : ByteArray) bt365.1 true (⟨#[]⟩ : ByteArray) bt371.1 bt371.2.1 bt371.2.2.1))) else (head_Parse.j0 k t358 t360 0 1 (⟨#[]⟩ : ByteArray) bt365.1 true (⟨#[]⟩ : ByteArray) bt371.1 bt371.2.1 bt371.2.2.1))))) else (none))) else (none)) else (none)))) = some (r1, r2, r3, r4, r5, r6, r7) := by first | (rw [hy355]; with_reducible exact H) | (have H2_ := (Option.bind_some _ _).symm.trans H; rw [hy355]; with_reducible exact H2_) | (have H2_ := (Option.bind_some _ _).symm.trans H; with_reducible exact H2_) | with_reducible exact H | (rw [hy355]; exact H) | exact H
  have Ny355 := zN hy355;clear hy355;obtain ⟨t358, A5, H⟩ := zA H;(try dsimp only at H);by_cases c6 : t358 < 0
  · rw [zp c6] at H;have c6b0 := zt c6;clear c6;by_cases c7 : (l0.length : Int) < 2048
    · rw [zp c7] at H;have c7b0 := zt c7;have c7b1 : decide (l0.length < 2048) = true := zt zO;clear c7;simp only [Option.some.injEq, Prod.mk.injEq] at H;obtain ⟨rfl, rfl, rfl, rfl, rfl, rfl, rfl⟩ := H;go_enter Tryz.func27, Tryz.ntmps27;go_wp2_with (first | ((with_reducible refine gate_dst (N := 2) rfl ?_); refine zX #[.string (⟨#[]⟩ : ByteArray), .string (⟨#[]⟩ : ByteArray), .string (⟨#[]⟩ : ByteArray), .string (⟨#[]⟩ : ByteArray), .slice none 0 0] 57 rfl ?_; intro gb353 hg w8 hbox hb; have BK353 := zN hbox; have GW353 := zY w (zB HB) hg; have GE353 := zY w (zB HB) hg; replace HB := zk HB hb; clear hb hbox hg; obtain ⟨i09, hi09, _, hsz9, _⟩ := info_parts info5; obtain ⟨hcut9, hA9, hC9⟩ := print_take_of (P := Tryz.prog) (Value.int .u8) 0 29 5 .i64 Tryz.underlying29 hi09 hsz9 A0 c0 l0 (ji2) (zd zS) (zd zS) HC0.out; have HR354 := zN (Kd.C_of_reads (h1 := fun _ => rfl) (hA9 _ (Kd.reads_of_C HR0.out))); have HC354 := zN hC9; clear hA9 hC9 hi09 hsz9) | ((with_reducible refine gate_dst (N := 27) rfl ?_); refine Kd.V_lit (Kd.int .u8) _ 5 ?hg (N := 27) ?hd (xs := ([13, 10, 13, 10] : List Int)) (inner := [.int .u8 13, .int .u8 10, .int .u8 13, .int .u8 10]) (ok := fun k_ => w8.heap.size ≤ k_) (okp := fun _ => False) ?hr ?hp (fun _ hk => hk.elim) (zh _) (Below.refl _ _) (zh _) (by simp) ?_; (case hd => rfl); (case hg => rfl); (case hr => first | (go_simp; done) | (go_simp; rfl)); (case hp => exact (Reps.one (show Kd.M (Kd.int .u8) _ _ _ 13 [.int .u8 13] from rfl) (Reps.one (show Kd.M (Kd.int .u8) _ _ _ 10 [.int .u8 10] from rfl) (Reps.one (show Kd.M (Kd.int .u8) _ _ _ 13 [.int .u8 13] from rfl) (Reps.one (show Kd.M (Kd.int .u8) _ _ _ 10 [.int .u8 10] from rfl) (Reps.none _ _)))))); intro v356 w10 ho11 hb hg_ hnew_; clear hg_ hnew_; (first | rw [← Ny355.out] at ho11 | (simp only [Int.reduceToNat] at ho11; rw [← Ny355.out] at ho11)); have HO357 := zN (Kd.V_lower (Kd.V_mono (ok' := fun k_ => k_ ≠ gb353) ho11 (fun k_ hk_ => (Kd.freshB (g := gb353) (o := .cells #[.string (⟨#[]⟩ : ByteArray), .string (⟨#[]⟩ : ByteArray), .string (⟨#[]⟩ : ByteArray), .string (⟨#[]⟩ : ByteArray), .slice none 0 0] 57 (0, 0)) (zK BK353) k_ hk_))) (below_size (zB1 HB GE353))); replace BK353 := zj BK353 hb; replace HB := zk1 HB GE353 hb; clear hb ho11; obtain ⟨Ao12, co12, eo12⟩ := Kd.V_slice HO357.out; subst eo12) | ((with_reducible refine gate_callee (f := 46) rfl ?_); refine goesL_ (some 28) rfl rfl Tryz.func46 zQ rfl #[.slice A0 (l0.take ((ji2) : Int).toNat).length c0, .slice Ao12 y355.length co12] rfl (by (try simp only [List.map_toArray, List.map_cons, List.map_nil]); first | done | (rw [show (l0.take ((ji2) : Int).toNat).length = (ji2).toNat from (by rw [List.length_take]; have h_ : ((ji2) : Int) ≤ (l0.length : Int) := zd zS; omega)] <;> rfl) | (simp only [hji2]; rfl) | rfl | (simp only [List.length_drop, List.length_take]; rfl)) ?_; (with_reducible refine (bytes_Index.calls _ _ (l0.take ((ji2) : Int).toNat) _ _ y355 t358 _ ?side1 ?side2 ?side3 ?side4 ?side5 A5.out).mono ?_); (case side1 => exact ML.keep HML.out (zB1 HB GE353)); (case side2 => exact zs (Kd.C_below HR354.out HB.out)); (case side3 => exact HC354.out); (case side4 => exact zs (Kd.V_reads' HO357.out).2.2); (case side5 => exact (Kd.V_reads' HO357.out).2.1); rintro e w' ⟨rfl, ⟨nd, rfl⟩⟩; refine ⟨_, rfl, ?_⟩; (try (rw [drewN_self w10]; generalize hq_ : World.drewN w10 _ = w10; replace HO357 : Aside0 (Kd.V (Kd.int .u8) 5 w10 w.heap.size (fun k_ => k_ ≠ gb353) (.slice Ao12 y355.length co12) y355) := ⟨by rw [← hq_]; exact (by (with_reducible repeat (first | apply Kd.V_alloc | apply Kd.V_drewN | apply Kd.V_drew)); exact HO357.out)⟩; replace BK353 : Aside0 (w10.heap[gb353]? = some (.cells #[.string (⟨#[]⟩ : ByteArray), .string (⟨#[]⟩ : ByteArray), .string (⟨#[]⟩ : ByteArray), .string (⟨#[]⟩ : ByteArray), .slice none 0 0] 57 (0, 0))) := ⟨by rw [← hq_]; exact (zK BK353)⟩; replace HB : Aside0 (Below w.heap.size w w10) := ⟨by rw [← hq_]; exact (zB1 HB GE353)⟩; clear hq_)); obtain ⟨hcz13_0, hcz13_1, hcz13_2, hcz13_3, hcz13_4, hfz13_0, hfz13_1, hfz13_2, hfz13_3, hfz13_4⟩ := zC5 BK353))
      refine Scope.wp_scope_two (by rfl) (by rfl) (fun K0 hK0_ K1 hK1_ => ?_);have hK0 := zN hK0_;have hK1 := zN hK1_;clear hK0_ hK1_;go_wp2_with (first | ((with_reducible refine gate_dst (N := 2) rfl ?_); refine zX #[.string (⟨#[]⟩ : ByteArray), .string (⟨#[]⟩ : ByteArray), .string (⟨#[]⟩ : ByteArray), .string (⟨#[]⟩ : ByteArray), .slice none 0 0] 57 rfl ?_; intro gb353 hg w8 hbox hb; have BK353 := zN hbox; have GW353 := zY w (zB HB) hg; have GE353 := zY w (zB HB) hg; replace HB := zk HB hb; clear hb hbox hg; obtain ⟨i09, hi09, _, hsz9, _⟩ := info_parts info5; obtain ⟨hcut9, hA9, hC9⟩ := print_take_of (P := Tryz.prog) (Value.int .u8) 0 29 5 .i64 Tryz.underlying29 hi09 hsz9 A0 c0 l0 (ji2) (zd zS) (zd zS) HC0.out; have HR354 := zN (Kd.C_of_reads (h1 := fun _ => rfl) (hA9 _ (Kd.reads_of_C HR0.out))); have HC354 := zN hC9; clear hA9 hC9 hi09 hsz9) | ((with_reducible refine gate_dst (N := 27) rfl ?_); refine Kd.V_lit (Kd.int .u8) _ 5 ?hg (N := 27) ?hd (xs := ([13, 10, 13, 10] : List Int)) (inner := [.int .u8 13, .int .u8 10, .int .u8 13, .int .u8 10]) (ok := fun k_ => w8.heap.size ≤ k_) (okp := fun _ => False) ?hr ?hp (fun _ hk => hk.elim) (zh _) (Below.refl _ _) (zh _) (by simp) ?_; (case hd => rfl); (case hg => rfl); (case hr => first | (go_simp; done) | (go_simp; rfl)); (case hp => exact (Reps.one (show Kd.M (Kd.int .u8) _ _ _ 13 [.int .u8 13] from rfl) (Reps.one (show Kd.M (Kd.int .u8) _ _ _ 10 [.int .u8 10] from rfl) (Reps.one (show Kd.M (Kd.int .u8) _ _ _ 13 [.int .u8 13] from rfl) (Reps.one (show Kd.M (Kd.int .u8) _ _ _ 10 [.int .u8 10] from rfl) (Reps.none _ _)))))); intro v356 w10 ho11 hb hg_ hnew_; clear hg_ hnew_; (first | rw [← Ny355.out] at ho11 | (simp only [Int.reduceToNat] at ho11; rw [← Ny355.out] at ho11)); have HO357 := zN (Kd.V_lower (Kd.V_mono (ok' := fun k_ => k_ ≠ gb353) ho11 (fun k_ hk_ => (Kd.freshB (g := gb353) (o := .cells #[.string (⟨#[]⟩ : ByteArray), .string (⟨#[]⟩ : ByteArray), .string (⟨#[]⟩ : ByteArray), .string (⟨#[]⟩ : ByteArray), .slice none 0 0] 57 (0, 0)) (zK BK353) k_ hk_))) (below_size (zB1 HB GE353))); replace BK353 := zj BK353 hb; replace HB := zk1 HB GE353 hb; clear hb ho11; obtain ⟨Ao12, co12, eo12⟩ := Kd.V_slice HO357.out; subst eo12) | ((with_reducible refine gate_callee (f := 46) rfl ?_); refine goesL_ (some 28) rfl rfl Tryz.func46 zQ rfl #[.slice A0 (l0.take ((ji2) : Int).toNat).length c0, .slice Ao12 y355.length co12] rfl (by (try simp only [List.map_toArray, List.map_cons, List.map_nil]); first | done | (rw [show (l0.take ((ji2) : Int).toNat).length = (ji2).toNat from (by rw [List.length_take]; have h_ : ((ji2) : Int) ≤ (l0.length : Int) := zd zS; omega)] <;> rfl) | (simp only [hji2]; rfl) | rfl | (simp only [List.length_drop, List.length_take]; rfl)) ?_; (with_reducible refine (bytes_Index.calls _ _ (l0.take ((ji2) : Int).toNat) _ _ y355 t358 _ ?side1 ?side2 ?side3 ?side4 ?side5 A5.out).mono ?_); (case side1 => exact ML.keep HML.out (zB1 HB GE353)); (case side2 => exact zs (Kd.C_below HR354.out HB.out)); (case side3 => exact HC354.out); (case side4 => exact zs (Kd.V_reads' HO357.out).2.2); (case side5 => exact (Kd.V_reads' HO357.out).2.1); rintro e w' ⟨rfl, ⟨nd, rfl⟩⟩; refine ⟨_, rfl, ?_⟩; (try (rw [drewN_self w10]; generalize hq_ : World.drewN w10 _ = w10; replace HO357 : Aside0 (Kd.V (Kd.int .u8) 5 w10 w.heap.size (fun k_ => k_ ≠ gb353) (.slice Ao12 y355.length co12) y355) := ⟨by rw [← hq_]; exact (by (with_reducible repeat (first | apply Kd.V_alloc | apply Kd.V_drewN | apply Kd.V_drew)); exact HO357.out)⟩; replace BK353 : Aside0 (w10.heap[gb353]? = some (.cells #[.string (⟨#[]⟩ : ByteArray), .string (⟨#[]⟩ : ByteArray), .string (⟨#[]⟩ : ByteArray), .string (⟨#[]⟩ : ByteArray), .slice none 0 0] 57 (0, 0))) := ⟨by rw [← hq_]; exact (zK BK353)⟩; replace HB : Aside0 (Below w.heap.size w w10) := ⟨by rw [← hq_]; exact (zB1 HB GE353)⟩; clear hq_)); obtain ⟨hcz13_0, hcz13_1, hcz13_2, hcz13_3, hcz13_4, hfz13_0, hfz13_1, hfz13_2, hfz13_3, hfz13_4⟩ := zC5 BK353))
      (try ((with_reducible refine wp_goto ?_); refine Or.inl ⟨rfl, ?_⟩; refine hK0.out _ _ ?_; go_wp2));(try simp only [Exit.two_ret, Exit.noGoto_ret]);refine bodyPost_ret (results_ctt rfl _ _ gb353 57 #[.string (⟨#[]⟩ : ByteArray), .string (⟨#[]⟩ : ByteArray), .string (⟨#[]⟩ : ByteArray), .string (⟨#[]⟩ : ByteArray), .slice none 0 0] (0, 0) _ rfl (zF BK353) Tryz.underlying57 rfl zQ) rfl ?_;exact ⟨_, by first | rfl | (simp [errW_none, errW_some] <;> rfl) | (simp only [← hji2]; first | rfl | (simp [errW_none, errW_some] <;> rfl)) | (simp [*, errW_none, errW_some] <;> rfl), by first | exact Kd.R_nil _ _ _ _ _ | exact Kd.N_nil _ _ _ _ _ | exact Kd.V_nil _ _ _ _ _ | exact Kd.Q_nil _ _ _ _ _ | exact Kd.S_nil _ _ _ _ _, zB1 HB GE353⟩
    rw [zn c7] at H;have c7b0 := zf c7;have c7b1 : decide (l0.length < 2048) = false := zf zO;clear c7;simp only [Option.some.injEq, Prod.mk.injEq] at H;obtain ⟨rfl, rfl, rfl, rfl, rfl, rfl, rfl⟩ := H;go_enter Tryz.func27, Tryz.ntmps27;go_wp2_with (first | ((with_reducible refine gate_dst (N := 2) rfl ?_); refine zX #[.string (⟨#[]⟩ : ByteArray), .string (⟨#[]⟩ : ByteArray), .string (⟨#[]⟩ : ByteArray), .string (⟨#[]⟩ : ByteArray), .slice none 0 0] 57 rfl ?_; intro gb353 hg w14 hbox hb; have BK353 := zN hbox; have GW353 := zY w (zB HB) hg; have GE353 := zY w (zB HB) hg; replace HB := zk HB hb; clear hb hbox hg; obtain ⟨i015, hi015, _, hsz15, _⟩ := info_parts info5; obtain ⟨hcut15, hA15, hC15⟩ := print_take_of (P := Tryz.prog) (Value.int .u8) 0 29 5 .i64 Tryz.underlying29 hi015 hsz15 A0 c0 l0 (ji2) (zd zS) (zd zS) HC0.out; have HR354 := zN (Kd.C_of_reads (h1 := fun _ => rfl) (hA15 _ (Kd.reads_of_C HR0.out))); have HC354 := zN hC15; clear hA15 hC15 hi015 hsz15) | ((with_reducible refine gate_dst (N := 27) rfl ?_); refine Kd.V_lit (Kd.int .u8) _ 5 ?hg (N := 27) ?hd (xs := ([13, 10, 13, 10] : List Int)) (inner := [.int .u8 13, .int .u8 10, .int .u8 13, .int .u8 10]) (ok := fun k_ => w14.heap.size ≤ k_) (okp := fun _ => False) ?hr ?hp (fun _ hk => hk.elim) (zh _) (Below.refl _ _) (zh _) (by simp) ?_; (case hd => rfl); (case hg => rfl); (case hr => first | (go_simp; done) | (go_simp; rfl)); (case hp => exact (Reps.one (show Kd.M (Kd.int .u8) _ _ _ 13 [.int .u8 13] from rfl) (Reps.one (show Kd.M (Kd.int .u8) _ _ _ 10 [.int .u8 10] from rfl) (Reps.one (show Kd.M (Kd.int .u8) _ _ _ 13 [.int .u8 13] from rfl) (Reps.one (show Kd.M (Kd.int .u8) _ _ _ 10 [.int .u8 10] from rfl) (Reps.none _ _)))))); intro v356 w16 ho17 hb hg_ hnew_; clear hg_ hnew_; (first | rw [← Ny355.out] at ho17 | (simp only [Int.reduceToNat] at ho17; rw [← Ny355.out] at ho17)); have HO357 := zN (Kd.V_lower (Kd.V_mono (ok' := fun k_ => k_ ≠ gb353) ho17 (fun k_ hk_ => (Kd.freshB (g := gb353) (o := .cells #[.string (⟨#[]⟩ : ByteArray), .string (⟨#[]⟩ : ByteArray), .string (⟨#[]⟩ : ByteArray), .string (⟨#[]⟩ : ByteArray), .slice none 0 0] 57 (0, 0)) (zK BK353) k_ hk_))) (below_size (zB1 HB GE353))); replace BK353 := zj BK353 hb; replace HB := zk1 HB GE353 hb; clear hb ho17; obtain ⟨Ao18, co18, eo18⟩ := Kd.V_slice HO357.out; subst eo18) | ((with_reducible refine gate_callee (f := 46) rfl ?_); refine goesL_ (some 28) rfl rfl Tryz.func46 zQ rfl #[.slice A0 (l0.take ((ji2) : Int).toNat).length c0, .slice Ao18 y355.length co18] rfl (by (try simp only [List.map_toArray, List.map_cons, List.map_nil]); first | done | (rw [show (l0.take ((ji2) : Int).toNat).length = (ji2).toNat from (by rw [List.length_take]; have h_ : ((ji2) : Int) ≤ (l0.length : Int) := zd zS; omega)] <;> rfl) | (simp only [hji2]; rfl) | rfl | (simp only [List.length_drop, List.length_take]; rfl)) ?_; (with_reducible refine (bytes_Index.calls _ _ (l0.take ((ji2) : Int).toNat) _ _ y355 t358 _ ?side1 ?side2 ?side3 ?side4 ?side5 A5.out).mono ?_); (case side1 => exact ML.keep HML.out (zB1 HB GE353)); (case side2 => exact zs (Kd.C_below HR354.out HB.out)); (case side3 => exact HC354.out); (case side4 => exact zs (Kd.V_reads' HO357.out).2.2); (case side5 => exact (Kd.V_reads' HO357.out).2.1); rintro e w' ⟨rfl, ⟨nd, rfl⟩⟩; refine ⟨_, rfl, ?_⟩; (try (rw [drewN_self w16]; generalize hq_ : World.drewN w16 _ = w16; replace HO357 : Aside0 (Kd.V (Kd.int .u8) 5 w16 w.heap.size (fun k_ => k_ ≠ gb353) (.slice Ao18 y355.length co18) y355) := ⟨by rw [← hq_]; exact (by (with_reducible repeat (first | apply Kd.V_alloc | apply Kd.V_drewN | apply Kd.V_drew)); exact HO357.out)⟩; replace BK353 : Aside0 (w16.heap[gb353]? = some (.cells #[.string (⟨#[]⟩ : ByteArray), .string (⟨#[]⟩ : ByteArray), .string (⟨#[]⟩ : ByteArray), .string (⟨#[]⟩ : ByteArray), .slice none 0 0] 57 (0, 0))) := ⟨by rw [← hq_]; exact (zK BK353)⟩; replace HB : Aside0 (Below w.heap.size w w16) := ⟨by rw [← hq_]; exact (zB1 HB GE353)⟩; clear hq_)); obtain ⟨hcz19_0, hcz19_1, hcz19_2, hcz19_3, hcz19_4, hfz19_0, hfz19_1, hfz19_2, hfz19_3, hfz19_4⟩ := zC5 BK353))
    refine Scope.wp_scope_two (by rfl) (by rfl) (fun K0 hK0_ K1 hK1_ => ?_);have hK0 := zN hK0_;have hK1 := zN hK1_;clear hK0_ hK1_;go_wp2_with (first | ((with_reducible refine gate_dst (N := 2) rfl ?_); refine zX #[.string (⟨#[]⟩ : ByteArray), .string (⟨#[]⟩ : ByteArray), .string (⟨#[]⟩ : ByteArray), .string (⟨#[]⟩ : ByteArray), .slice none 0 0] 57 rfl ?_; intro gb353 hg w14 hbox hb; have BK353 := zN hbox; have GW353 := zY w (zB HB) hg; have GE353 := zY w (zB HB) hg; replace HB := zk HB hb; clear hb hbox hg; obtain ⟨i015, hi015, _, hsz15, _⟩ := info_parts info5; obtain ⟨hcut15, hA15, hC15⟩ := print_take_of (P := Tryz.prog) (Value.int .u8) 0 29 5 .i64 Tryz.underlying29 hi015 hsz15 A0 c0 l0 (ji2) (zd zS) (zd zS) HC0.out; have HR354 := zN (Kd.C_of_reads (h1 := fun _ => rfl) (hA15 _ (Kd.reads_of_C HR0.out))); have HC354 := zN hC15; clear hA15 hC15 hi015 hsz15) | ((with_reducible refine gate_dst (N := 27) rfl ?_); refine Kd.V_lit (Kd.int .u8) _ 5 ?hg (N := 27) ?hd (xs := ([13, 10, 13, 10] : List Int)) (inner := [.int .u8 13, .int .u8 10, .int .u8 13, .int .u8 10]) (ok := fun k_ => w14.heap.size ≤ k_) (okp := fun _ => False) ?hr ?hp (fun _ hk => hk.elim) (zh _) (Below.refl _ _) (zh _) (by simp) ?_; (case hd => rfl); (case hg => rfl); (case hr => first | (go_simp; done) | (go_simp; rfl)); (case hp => exact (Reps.one (show Kd.M (Kd.int .u8) _ _ _ 13 [.int .u8 13] from rfl) (Reps.one (show Kd.M (Kd.int .u8) _ _ _ 10 [.int .u8 10] from rfl) (Reps.one (show Kd.M (Kd.int .u8) _ _ _ 13 [.int .u8 13] from rfl) (Reps.one (show Kd.M (Kd.int .u8) _ _ _ 10 [.int .u8 10] from rfl) (Reps.none _ _)))))); intro v356 w16 ho17 hb hg_ hnew_; clear hg_ hnew_; (first | rw [← Ny355.out] at ho17 | (simp only [Int.reduceToNat] at ho17; rw [← Ny355.out] at ho17)); have HO357 := zN (Kd.V_lower (Kd.V_mono (ok' := fun k_ => k_ ≠ gb353) ho17 (fun k_ hk_ => (Kd.freshB (g := gb353) (o := .cells #[.string (⟨#[]⟩ : ByteArray), .string (⟨#[]⟩ : ByteArray), .string (⟨#[]⟩ : ByteArray), .string (⟨#[]⟩ : ByteArray), .slice none 0 0] 57 (0, 0)) (zK BK353) k_ hk_))) (below_size (zB1 HB GE353))); replace BK353 := zj BK353 hb; replace HB := zk1 HB GE353 hb; clear hb ho17; obtain ⟨Ao18, co18, eo18⟩ := Kd.V_slice HO357.out; subst eo18) | ((with_reducible refine gate_callee (f := 46) rfl ?_); refine goesL_ (some 28) rfl rfl Tryz.func46 zQ rfl #[.slice A0 (l0.take ((ji2) : Int).toNat).length c0, .slice Ao18 y355.length co18] rfl (by (try simp only [List.map_toArray, List.map_cons, List.map_nil]); first | done | (rw [show (l0.take ((ji2) : Int).toNat).length = (ji2).toNat from (by rw [List.length_take]; have h_ : ((ji2) : Int) ≤ (l0.length : Int) := zd zS; omega)] <;> rfl) | (simp only [hji2]; rfl) | rfl | (simp only [List.length_drop, List.length_take]; rfl)) ?_; (with_reducible refine (bytes_Index.calls _ _ (l0.take ((ji2) : Int).toNat) _ _ y355 t358 _ ?side1 ?side2 ?side3 ?side4 ?side5 A5.out).mono ?_); (case side1 => exact ML.keep HML.out (zB1 HB GE353)); (case side2 => exact zs (Kd.C_below HR354.out HB.out)); (case side3 => exact HC354.out); (case side4 => exact zs (Kd.V_reads' HO357.out).2.2); (case side5 => exact (Kd.V_reads' HO357.out).2.1); rintro e w' ⟨rfl, ⟨nd, rfl⟩⟩; refine ⟨_, rfl, ?_⟩; (try (rw [drewN_self w16]; generalize hq_ : World.drewN w16 _ = w16; replace HO357 : Aside0 (Kd.V (Kd.int .u8) 5 w16 w.heap.size (fun k_ => k_ ≠ gb353) (.slice Ao18 y355.length co18) y355) := ⟨by rw [← hq_]; exact (by (with_reducible repeat (first | apply Kd.V_alloc | apply Kd.V_drewN | apply Kd.V_drew)); exact HO357.out)⟩; replace BK353 : Aside0 (w16.heap[gb353]? = some (.cells #[.string (⟨#[]⟩ : ByteArray), .string (⟨#[]⟩ : ByteArray), .string (⟨#[]⟩ : ByteArray), .string (⟨#[]⟩ : ByteArray), .slice none 0 0] 57 (0, 0))) := ⟨by rw [← hq_]; exact (zK BK353)⟩; replace HB : Aside0 (Below w.heap.size w w16) := ⟨by rw [← hq_]; exact (zB1 HB GE353)⟩; clear hq_)); obtain ⟨hcz19_0, hcz19_1, hcz19_2, hcz19_3, hcz19_4, hfz19_0, hfz19_1, hfz19_2, hfz19_3, hfz19_4⟩ := zC5 BK353))
    (try ((with_reducible refine wp_goto ?_); refine Or.inl ⟨rfl, ?_⟩; refine hK0.out _ _ ?_; go_wp2));(try simp only [Exit.two_ret, Exit.noGoto_ret]);refine bodyPost_ret (results_ctt rfl _ _ gb353 57 #[.string (⟨#[]⟩ : ByteArray), .string (⟨#[]⟩ : ByteArray), .string (⟨#[]⟩ : ByteArray), .string (⟨#[]⟩ : ByteArray), .slice none 0 0] (0, 0) _ rfl (zF BK353) Tryz.underlying57 rfl zQ) rfl ?_;exact ⟨_, by first | rfl | (simp [errW_none, errW_some] <;> rfl) | (simp only [← hji2]; first | rfl | (simp [errW_none, errW_some] <;> rfl)) | (simp [*, errW_none, errW_some] <;> rfl), by first | exact Kd.R_nil _ _ _ _ _ | exact Kd.N_nil _ _ _ _ _ | exact Kd.V_nil _ _ _ _ _ | exact Kd.Q_nil _ _ _ _ _ | exact Kd.S_nil _ _ _ _ _, zB1 HB GE353⟩
  rw [zn c6] at H;have c6b0 := zf c6;clear c6;by_cases c20 : 0 ≤ t358;rotate_left
  · rw [zn c20] at H;exact absurd H (by simp)
  rw [zp c20] at H;have c20b0 := zu c20;have c20b1 := zt c20;clear c20;by_cases c21 : t358 ≤ (l0.length : Int);rotate_left
  · rw [zn c21] at H;exact absurd H (by simp)
  rw [zp c21] at H;have c21b0 := zu c21;have c21b1 := zt c21;clear c21;obtain ⟨t360, A22, H⟩ := zA H;(try dsimp only at H);by_cases c23 : 0 < (t360.length : Int);rotate_left
  · rw [zn c23] at H;exact absurd H (by simp)
  rw [zp c23] at H;have c23b0 := zt c23;have c23b1 : decide (0 < t360.length) = true := zt zO;clear c23;obtain ⟨⟨t365, t366, t367⟩, A24, H⟩ := zA H;(try dsimp only at H);obtain ⟨⟨t368, t369, t370⟩, A25, H⟩ := zA H;(try dsimp only at H);obtain ⟨⟨t371, t372, t373, t374⟩, A26, H⟩ := zA H;(try dsimp only at H);have HC27 := zN H;clear H;go_enter Tryz.func27, Tryz.ntmps27;go_wp2_with (first | ((with_reducible refine gate_dst (N := 2) rfl ?_); refine zX #[.string (⟨#[]⟩ : ByteArray), .string (⟨#[]⟩ : ByteArray), .string (⟨#[]⟩ : ByteArray), .string (⟨#[]⟩ : ByteArray), .slice none 0 0] 57 rfl ?_; intro gb353 hg w28 hbox hb; have BK353 := zN hbox; have GW353 := zY w (zB HB) hg; have GE353 := zY w (zB HB) hg; replace HB := zk HB hb; clear hb hbox hg; obtain ⟨i029, hi029, _, hsz29, _⟩ := info_parts info5; obtain ⟨hcut29, hA29, hC29⟩ := print_take_of (P := Tryz.prog) (Value.int .u8) 0 29 5 .i64 Tryz.underlying29 hi029 hsz29 A0 c0 l0 (ji2) (zd zS) (zd zS) HC0.out; have HR354 := zN (Kd.C_of_reads (h1 := fun _ => rfl) (hA29 _ (Kd.reads_of_C HR0.out))); have HC354 := zN hC29; clear hA29 hC29 hi029 hsz29) | ((with_reducible refine gate_dst (N := 27) rfl ?_); refine Kd.V_lit (Kd.int .u8) _ 5 ?hg (N := 27) ?hd (xs := ([13, 10, 13, 10] : List Int)) (inner := [.int .u8 13, .int .u8 10, .int .u8 13, .int .u8 10]) (ok := fun k_ => w28.heap.size ≤ k_) (okp := fun _ => False) ?hr ?hp (fun _ hk => hk.elim) (zh _) (Below.refl _ _) (zh _) (by simp) ?_; (case hd => rfl); (case hg => rfl); (case hr => first | (go_simp; done) | (go_simp; rfl)); (case hp => exact (Reps.one (show Kd.M (Kd.int .u8) _ _ _ 13 [.int .u8 13] from rfl) (Reps.one (show Kd.M (Kd.int .u8) _ _ _ 10 [.int .u8 10] from rfl) (Reps.one (show Kd.M (Kd.int .u8) _ _ _ 13 [.int .u8 13] from rfl) (Reps.one (show Kd.M (Kd.int .u8) _ _ _ 10 [.int .u8 10] from rfl) (Reps.none _ _)))))); intro v356 w30 ho31 hb hg_ hnew_; clear hg_ hnew_; (first | rw [← Ny355.out] at ho31 | (simp only [Int.reduceToNat] at ho31; rw [← Ny355.out] at ho31)); have HO357 := zN (Kd.V_lower (Kd.V_mono (ok' := fun k_ => k_ ≠ gb353) ho31 (fun k_ hk_ => (Kd.freshB (g := gb353) (o := .cells #[.string (⟨#[]⟩ : ByteArray), .string (⟨#[]⟩ : ByteArray), .string (⟨#[]⟩ : ByteArray), .string (⟨#[]⟩ : ByteArray), .slice none 0 0] 57 (0, 0)) (zK BK353) k_ hk_))) (below_size (zB1 HB GE353))); replace BK353 := zj BK353 hb; replace HB := zk1 HB GE353 hb; clear hb ho31; obtain ⟨Ao32, co32, eo32⟩ := Kd.V_slice HO357.out; subst eo32) | ((with_reducible refine gate_callee (f := 46) rfl ?_); refine goesL_ (some 28) rfl rfl Tryz.func46 zQ rfl #[.slice A0 (l0.take ((ji2) : Int).toNat).length c0, .slice Ao32 y355.length co32] rfl (by (try simp only [List.map_toArray, List.map_cons, List.map_nil]); first | done | (rw [show (l0.take ((ji2) : Int).toNat).length = (ji2).toNat from (by rw [List.length_take]; have h_ : ((ji2) : Int) ≤ (l0.length : Int) := zd zS; omega)] <;> rfl) | (simp only [hji2]; rfl) | rfl | (simp only [List.length_drop, List.length_take]; rfl)) ?_; (with_reducible refine (bytes_Index.calls _ _ (l0.take ((ji2) : Int).toNat) _ _ y355 t358 _ ?side1 ?side2 ?side3 ?side4 ?side5 A5.out).mono ?_); (case side1 => exact ML.keep HML.out (zB1 HB GE353)); (case side2 => exact zs (Kd.C_below HR354.out HB.out)); (case side3 => exact HC354.out); (case side4 => exact zs (Kd.V_reads' HO357.out).2.2); (case side5 => exact (Kd.V_reads' HO357.out).2.1); rintro e w' ⟨rfl, ⟨nd, rfl⟩⟩; refine ⟨_, rfl, ?_⟩; (try (rw [drewN_self w30]; generalize hq_ : World.drewN w30 _ = w30; replace HO357 : Aside0 (Kd.V (Kd.int .u8) 5 w30 w.heap.size (fun k_ => k_ ≠ gb353) (.slice Ao32 y355.length co32) y355) := ⟨by rw [← hq_]; exact (by (with_reducible repeat (first | apply Kd.V_alloc | apply Kd.V_drewN | apply Kd.V_drew)); exact HO357.out)⟩; replace BK353 : Aside0 (w30.heap[gb353]? = some (.cells #[.string (⟨#[]⟩ : ByteArray), .string (⟨#[]⟩ : ByteArray), .string (⟨#[]⟩ : ByteArray), .string (⟨#[]⟩ : ByteArray), .slice none 0 0] 57 (0, 0))) := ⟨by rw [← hq_]; exact (zK BK353)⟩; replace HB : Aside0 (Below w.heap.size w w30) := ⟨by rw [← hq_]; exact (zB1 HB GE353)⟩; clear hq_)); obtain ⟨i033, hi033, _, hsz33, _⟩ := info_parts info5; obtain ⟨hcut33, hA33, hC33⟩ := print_take_of (P := Tryz.prog) (Value.int .u8) 0 29 5 .i64 Tryz.underlying29 hi033 hsz33 A0 c0 l0 t358 (zd zS) (zd zS) HC0.out; have HR359 := zN (Kd.C_of_reads (h1 := fun _ => rfl) (hA33 _ (Kd.reads_of_C HR0.out))); have HC359 := zN hC33; clear hA33 hC33 hi033 hsz33; have hcv34 := Kd.C_string (P := Tryz.prog) (A := A0) (c := c0) Tryz.underlying29 Tryz.underlying5 Tryz.underlying9 (Kd.C_below HR359.out HB.out); (try (have hcv34d := fun m_ : Nat => Kd.C_string (P := Tryz.prog) (A := A0) (c := c0) Tryz.underlying29 Tryz.underlying5 Tryz.underlying9 (Kd.C_drewN ((Kd.C_below HR359.out HB.out)) m_))); (try (have hcv34l := hcv34; rw [show (l0.take (t358 : Int).toNat).length = t358.toNat from (by rw [List.length_take]; have h_ : (t358 : Int) ≤ (l0.length : Int) := zd zS; omega)] at hcv34l))) | ((with_reducible refine gate_callee (f := 47) rfl ?_); refine zg (some 40) Tryz.func47 #[.string (strOfNums (l0.take (t358 : Int).toNat)), .string (⟨#[13, 10]⟩ : ByteArray)] ?_; (with_reducible refine (strings_Split.calls (strOfNums (l0.take (t358 : Int).toNat)) (⟨#[13, 10]⟩ : ByteArray) t360 _ ?side1 A22.out).mono ?_); (case side1 => exact ML.keep HML.out (zB1 HB GE353)); rintro e w35 ⟨v361, rfl, ho0, hb⟩; refine ⟨_, rfl, ?_⟩; replace HO357 := zN (Kd.V_elder' (by (with_reducible repeat (first | apply Kd.V_alloc | apply Kd.V_drewN | apply Kd.V_drew)); exact HO357.out) (Kd.R_base ho0) hb); have HO362 := zN (Kd.R_lower ho0 (below_size (zB1 HB GE353))); replace BK353 := zj BK353 hb; replace HB := zk1 HB GE353 hb; (try clear hb); (try clear hb2); (try clear hk); (try clear hi); (try clear ho0)) | ((with_reducible refine gate_dst (N := 7) rfl ?_); refine zX #[.string (⟨#[]⟩ : ByteArray), .string (⟨#[]⟩ : ByteArray), .string (⟨#[]⟩ : ByteArray), .string (⟨#[]⟩ : ByteArray), .slice none 0 0] 57 rfl ?_; intro gb363 hg w36 hbox hb; replace HO357 := zN (Kd.V_below (Kd.V_elderB (by (with_reducible repeat (first | apply Kd.V_alloc | apply Kd.V_drewN | apply Kd.V_drew)); exact HO357.out) gb363 (Nat.le_of_eq hg.symm)) hb); replace HO362 := zN (Kd.R_below (zR HO362) hb); have BK363 := zN hbox; have GW363 := zY w (zB1 HB GE353) hg; have GE363 := zY w (zB1 HB GE353) hg; replace HB := zk1 HB GE353 hb; have NB353_363 := zl BK353 hg; have NB363_353 := zl' BK353 hg; replace BK353 := zj BK353 hb; clear hb hbox hg; obtain ⟨Ao37, co37, eo37⟩ := Kd.R_slice HO362.out; subst eo37; have p364 : 0 ≤ (0 : Int) := zO; have q364 : 0 < (t360.length : Int) := zd zS; obtain ⟨ad364, e364, hx364_0⟩ := Kd.at_string (Kd.R_reads' HO362.out).2.2 0 p364 q364; cases e364; have qi364 : (0 < t360.length) = True := zu zO; (try rw [show ((0 : Int)).toNat = 0 from rfl] at hx364_0); (try rw [Addr.add_zero'] at hx364_0); replace p364 := zu p364; replace q364 := zu q364) | ((with_reducible refine gate_callee (f := 48) rfl ?_); refine zg (some 45) Tryz.func48 #[.string (rdOf ByteArray.empty t360 0), .string (⟨#[32]⟩ : ByteArray)] ?_; (with_reducible refine (strings_Cut.calls (rdOf ByteArray.empty t360 0) (⟨#[32]⟩ : ByteArray) t365 t366 t367 _ ?side1 A24.out).mono ?_); (case side1 => exact ML.keep HML.out (zB2 HB GE353 GE363)); rintro e w' ⟨rfl, ⟨nd, rfl⟩⟩; refine ⟨_, rfl, ?_⟩; (try (rw [drewN_self w36]; generalize hq_ : World.drewN w36 _ = w36; replace HO357 : Aside0 (Kd.V (Kd.int .u8) 5 w36 w.heap.size (fun k_ => some k_ ≠ (.slice (some ad364) t360.length co37 : Value).ownBlock ∧ k_ ≠ gb353 ∧ k_ ≠ gb363) (.slice Ao32 y355.length co32) y355) := ⟨by rw [← hq_]; exact (by (with_reducible repeat (first | apply Kd.V_alloc | apply Kd.V_drewN | apply Kd.V_drew)); exact Kd.V_mono HO357.out (fun _ hk => ⟨hk.1.2, ⟨hk.1.1, hk.2⟩⟩))⟩; replace HO362 : Aside0 (Kd.R Kd.string 9 w36 w.heap.size (fun _ => True) (.slice (some ad364) t360.length co37) t360) := ⟨by rw [← hq_]; exact (zR HO362)⟩; replace BK353 : Aside0 (w36.heap[gb353]? = some (.cells #[.string (⟨#[]⟩ : ByteArray), .string (⟨#[]⟩ : ByteArray), .string (⟨#[]⟩ : ByteArray), .string (⟨#[]⟩ : ByteArray), .slice none 0 0] 57 (0, 0))) := ⟨by rw [← hq_]; exact (zK BK353)⟩; replace BK363 : Aside0 (w36.heap[gb363]? = some (.cells #[.string (⟨#[]⟩ : ByteArray), .string (⟨#[]⟩ : ByteArray), .string (⟨#[]⟩ : ByteArray), .string (⟨#[]⟩ : ByteArray), .slice none 0 0] 57 (0, 0))) := ⟨by rw [← hq_]; exact (zK BK363)⟩; replace HB : Aside0 (Below w.heap.size w w36) := ⟨by rw [← hq_]; exact (zB2 HB GE353 GE363)⟩; clear hq_))) | ((with_reducible refine gate_callee (f := 48) rfl ?_); refine zg (some 51) Tryz.func48 #[.string t366, .string (⟨#[32]⟩ : ByteArray)] ?_; (with_reducible refine (strings_Cut.calls t366 (⟨#[32]⟩ : ByteArray) t368 t369 t370 _ ?side1 A25.out).mono ?_); (case side1 => exact ML.keep HML.out (zB2 HB GE353 GE363)); rintro e w' ⟨rfl, ⟨nd, rfl⟩⟩; refine ⟨_, rfl, ?_⟩; (try (rw [drewN_self w36]; generalize hq_ : World.drewN w36 _ = w36; replace HO357 : Aside0 (Kd.V (Kd.int .u8) 5 w36 w.heap.size (fun k_ => some k_ ≠ (.slice (some ad364) t360.length co37 : Value).ownBlock ∧ k_ ≠ gb353 ∧ k_ ≠ gb363) (.slice Ao32 y355.length co32) y355) := ⟨by rw [← hq_]; exact (by (with_reducible repeat (first | apply Kd.V_alloc | apply Kd.V_drewN | apply Kd.V_drew)); exact Kd.V_mono HO357.out (fun _ hk => ⟨hk.1.2, ⟨hk.1.1, hk.2⟩⟩))⟩; replace HO362 : Aside0 (Kd.R Kd.string 9 w36 w.heap.size (fun _ => True) (.slice (some ad364) t360.length co37) t360) := ⟨by rw [← hq_]; exact (zR HO362)⟩; replace BK353 : Aside0 (w36.heap[gb353]? = some (.cells #[.string (⟨#[]⟩ : ByteArray), .string (⟨#[]⟩ : ByteArray), .string (⟨#[]⟩ : ByteArray), .string (⟨#[]⟩ : ByteArray), .slice none 0 0] 57 (0, 0))) := ⟨by rw [← hq_]; exact (zK BK353)⟩; replace BK363 : Aside0 (w36.heap[gb363]? = some (.cells #[.string (⟨#[]⟩ : ByteArray), .string (⟨#[]⟩ : ByteArray), .string (⟨#[]⟩ : ByteArray), .string (⟨#[]⟩ : ByteArray), .slice none 0 0] 57 (0, 0))) := ⟨by rw [← hq_]; exact (zK BK363)⟩; replace HB : Aside0 (Below w.heap.size w w36) := ⟨by rw [← hq_]; exact (zB2 HB GE353 GE363)⟩; clear hq_))) | ((with_reducible refine gate_callee (f := 49) rfl ?_); refine zg (some 57) Tryz.func49 #[.string t368] ?_; (with_reducible refine (head_target.calls k t368 t371 t372 t373 t374 _ ?side1 A26.out).mono ?_); (case side1 => exact ML.keep HML.out (zB2 HB GE353 GE363)); rintro e w38 ⟨rfl, hb⟩; refine ⟨_, rfl, ?_⟩; replace HO357 := zN (Kd.V_below (by (with_reducible repeat (first | apply Kd.V_alloc | apply Kd.V_drewN | apply Kd.V_drew)); exact HO357.out) hb); replace HO362 := zN (Kd.R_below (zR HO362) hb); replace BK353 := zj BK353 hb; replace BK363 := zj BK363 hb; replace HB := zk2 HB GE353 GE363 hb; (try clear hb); (try clear hb2); (try clear hk); (try clear hi); have hnb39 := NB363_353.out; have hnc39 := NB353_363.out; obtain ⟨hcz40_0, hcz40_1, hcz40_2, hcz40_3, hcz40_4, hfz40_0, hfz40_1, hfz40_2, hfz40_3, hfz40_4⟩ := zC5 BK363))
  refine Scope.wp_scope_two (by rfl) (by rfl) (fun K0 hK0_ K1 hK1_ => ?_);have hK0 := zN hK0_;have hK1 := zN hK1_;clear hK0_ hK1_;go_upto_region 13 with (first | ((with_reducible refine gate_dst (N := 2) rfl ?_); refine zX #[.string (⟨#[]⟩ : ByteArray), .string (⟨#[]⟩ : ByteArray), .string (⟨#[]⟩ : ByteArray), .string (⟨#[]⟩ : ByteArray), .slice none 0 0] 57 rfl ?_; intro gb353 hg w28 hbox hb; have BK353 := zN hbox; have GW353 := zY w (zB HB) hg; have GE353 := zY w (zB HB) hg; replace HB := zk HB hb; clear hb hbox hg; obtain ⟨i029, hi029, _, hsz29, _⟩ := info_parts info5; obtain ⟨hcut29, hA29, hC29⟩ := print_take_of (P := Tryz.prog) (Value.int .u8) 0 29 5 .i64 Tryz.underlying29 hi029 hsz29 A0 c0 l0 (ji2) (zd zS) (zd zS) HC0.out; have HR354 := zN (Kd.C_of_reads (h1 := fun _ => rfl) (hA29 _ (Kd.reads_of_C HR0.out))); have HC354 := zN hC29; clear hA29 hC29 hi029 hsz29) | ((with_reducible refine gate_dst (N := 27) rfl ?_); refine Kd.V_lit (Kd.int .u8) _ 5 ?hg (N := 27) ?hd (xs := ([13, 10, 13, 10] : List Int)) (inner := [.int .u8 13, .int .u8 10, .int .u8 13, .int .u8 10]) (ok := fun k_ => w28.heap.size ≤ k_) (okp := fun _ => False) ?hr ?hp (fun _ hk => hk.elim) (zh _) (Below.refl _ _) (zh _) (by simp) ?_; (case hd => rfl); (case hg => rfl); (case hr => first | (go_simp; done) | (go_simp; rfl)); (case hp => exact (Reps.one (show Kd.M (Kd.int .u8) _ _ _ 13 [.int .u8 13] from rfl) (Reps.one (show Kd.M (Kd.int .u8) _ _ _ 10 [.int .u8 10] from rfl) (Reps.one (show Kd.M (Kd.int .u8) _ _ _ 13 [.int .u8 13] from rfl) (Reps.one (show Kd.M (Kd.int .u8) _ _ _ 10 [.int .u8 10] from rfl) (Reps.none _ _)))))); intro v356 w30 ho31 hb hg_ hnew_; clear hg_ hnew_; (first | rw [← Ny355.out] at ho31 | (simp only [Int.reduceToNat] at ho31; rw [← Ny355.out] at ho31)); have HO357 := zN (Kd.V_lower (Kd.V_mono (ok' := fun k_ => k_ ≠ gb353) ho31 (fun k_ hk_ => (Kd.freshB (g := gb353) (o := .cells #[.string (⟨#[]⟩ : ByteArray), .string (⟨#[]⟩ : ByteArray), .string (⟨#[]⟩ : ByteArray), .string (⟨#[]⟩ : ByteArray), .slice none 0 0] 57 (0, 0)) (zK BK353) k_ hk_))) (below_size (zB1 HB GE353))); replace BK353 := zj BK353 hb; replace HB := zk1 HB GE353 hb; clear hb ho31; obtain ⟨Ao32, co32, eo32⟩ := Kd.V_slice HO357.out; subst eo32) | ((with_reducible refine gate_callee (f := 46) rfl ?_); refine goesL_ (some 28) rfl rfl Tryz.func46 zQ rfl #[.slice A0 (l0.take ((ji2) : Int).toNat).length c0, .slice Ao32 y355.length co32] rfl (by (try simp only [List.map_toArray, List.map_cons, List.map_nil]); first | done | (rw [show (l0.take ((ji2) : Int).toNat).length = (ji2).toNat from (by rw [List.length_take]; have h_ : ((ji2) : Int) ≤ (l0.length : Int) := zd zS; omega)] <;> rfl) | (simp only [hji2]; rfl) | rfl | (simp only [List.length_drop, List.length_take]; rfl)) ?_; (with_reducible refine (bytes_Index.calls _ _ (l0.take ((ji2) : Int).toNat) _ _ y355 t358 _ ?side1 ?side2 ?side3 ?side4 ?side5 A5.out).mono ?_); (case side1 => exact ML.keep HML.out (zB1 HB GE353)); (case side2 => exact zs (Kd.C_below HR354.out HB.out)); (case side3 => exact HC354.out); (case side4 => exact zs (Kd.V_reads' HO357.out).2.2); (case side5 => exact (Kd.V_reads' HO357.out).2.1); rintro e w' ⟨rfl, ⟨nd, rfl⟩⟩; refine ⟨_, rfl, ?_⟩; (try (rw [drewN_self w30]; generalize hq_ : World.drewN w30 _ = w30; replace HO357 : Aside0 (Kd.V (Kd.int .u8) 5 w30 w.heap.size (fun k_ => k_ ≠ gb353) (.slice Ao32 y355.length co32) y355) := ⟨by rw [← hq_]; exact (by (with_reducible repeat (first | apply Kd.V_alloc | apply Kd.V_drewN | apply Kd.V_drew)); exact HO357.out)⟩; replace BK353 : Aside0 (w30.heap[gb353]? = some (.cells #[.string (⟨#[]⟩ : ByteArray), .string (⟨#[]⟩ : ByteArray), .string (⟨#[]⟩ : ByteArray), .string (⟨#[]⟩ : ByteArray), .slice none 0 0] 57 (0, 0))) := ⟨by rw [← hq_]; exact (zK BK353)⟩; replace HB : Aside0 (Below w.heap.size w w30) := ⟨by rw [← hq_]; exact (zB1 HB GE353)⟩; clear hq_)); obtain ⟨i033, hi033, _, hsz33, _⟩ := info_parts info5; obtain ⟨hcut33, hA33, hC33⟩ := print_take_of (P := Tryz.prog) (Value.int .u8) 0 29 5 .i64 Tryz.underlying29 hi033 hsz33 A0 c0 l0 t358 (zd zS) (zd zS) HC0.out; have HR359 := zN (Kd.C_of_reads (h1 := fun _ => rfl) (hA33 _ (Kd.reads_of_C HR0.out))); have HC359 := zN hC33; clear hA33 hC33 hi033 hsz33; have hcv34 := Kd.C_string (P := Tryz.prog) (A := A0) (c := c0) Tryz.underlying29 Tryz.underlying5 Tryz.underlying9 (Kd.C_below HR359.out HB.out); (try (have hcv34d := fun m_ : Nat => Kd.C_string (P := Tryz.prog) (A := A0) (c := c0) Tryz.underlying29 Tryz.underlying5 Tryz.underlying9 (Kd.C_drewN ((Kd.C_below HR359.out HB.out)) m_))); (try (have hcv34l := hcv34; rw [show (l0.take (t358 : Int).toNat).length = t358.toNat from (by rw [List.length_take]; have h_ : (t358 : Int) ≤ (l0.length : Int) := zd zS; omega)] at hcv34l))) | ((with_reducible refine gate_callee (f := 47) rfl ?_); refine zg (some 40) Tryz.func47 #[.string (strOfNums (l0.take (t358 : Int).toNat)), .string (⟨#[13, 10]⟩ : ByteArray)] ?_; (with_reducible refine (strings_Split.calls (strOfNums (l0.take (t358 : Int).toNat)) (⟨#[13, 10]⟩ : ByteArray) t360 _ ?side1 A22.out).mono ?_); (case side1 => exact ML.keep HML.out (zB1 HB GE353)); rintro e w35 ⟨v361, rfl, ho0, hb⟩; refine ⟨_, rfl, ?_⟩; replace HO357 := zN (Kd.V_elder' (by (with_reducible repeat (first | apply Kd.V_alloc | apply Kd.V_drewN | apply Kd.V_drew)); exact HO357.out) (Kd.R_base ho0) hb); have HO362 := zN (Kd.R_lower ho0 (below_size (zB1 HB GE353))); replace BK353 := zj BK353 hb; replace HB := zk1 HB GE353 hb; (try clear hb); (try clear hb2); (try clear hk); (try clear hi); (try clear ho0)) | ((with_reducible refine gate_dst (N := 7) rfl ?_); refine zX #[.string (⟨#[]⟩ : ByteArray), .string (⟨#[]⟩ : ByteArray), .string (⟨#[]⟩ : ByteArray), .string (⟨#[]⟩ : ByteArray), .slice none 0 0] 57 rfl ?_; intro gb363 hg w36 hbox hb; replace HO357 := zN (Kd.V_below (Kd.V_elderB (by (with_reducible repeat (first | apply Kd.V_alloc | apply Kd.V_drewN | apply Kd.V_drew)); exact HO357.out) gb363 (Nat.le_of_eq hg.symm)) hb); replace HO362 := zN (Kd.R_below (zR HO362) hb); have BK363 := zN hbox; have GW363 := zY w (zB1 HB GE353) hg; have GE363 := zY w (zB1 HB GE353) hg; replace HB := zk1 HB GE353 hb; have NB353_363 := zl BK353 hg; have NB363_353 := zl' BK353 hg; replace BK353 := zj BK353 hb; clear hb hbox hg; obtain ⟨Ao37, co37, eo37⟩ := Kd.R_slice HO362.out; subst eo37; have p364 : 0 ≤ (0 : Int) := zO; have q364 : 0 < (t360.length : Int) := zd zS; obtain ⟨ad364, e364, hx364_0⟩ := Kd.at_string (Kd.R_reads' HO362.out).2.2 0 p364 q364; cases e364; have qi364 : (0 < t360.length) = True := zu zO; (try rw [show ((0 : Int)).toNat = 0 from rfl] at hx364_0); (try rw [Addr.add_zero'] at hx364_0); replace p364 := zu p364; replace q364 := zu q364) | ((with_reducible refine gate_callee (f := 48) rfl ?_); refine zg (some 45) Tryz.func48 #[.string (rdOf ByteArray.empty t360 0), .string (⟨#[32]⟩ : ByteArray)] ?_; (with_reducible refine (strings_Cut.calls (rdOf ByteArray.empty t360 0) (⟨#[32]⟩ : ByteArray) t365 t366 t367 _ ?side1 A24.out).mono ?_); (case side1 => exact ML.keep HML.out (zB2 HB GE353 GE363)); rintro e w' ⟨rfl, ⟨nd, rfl⟩⟩; refine ⟨_, rfl, ?_⟩; (try (rw [drewN_self w36]; generalize hq_ : World.drewN w36 _ = w36; replace HO357 : Aside0 (Kd.V (Kd.int .u8) 5 w36 w.heap.size (fun k_ => some k_ ≠ (.slice (some ad364) t360.length co37 : Value).ownBlock ∧ k_ ≠ gb353 ∧ k_ ≠ gb363) (.slice Ao32 y355.length co32) y355) := ⟨by rw [← hq_]; exact (by (with_reducible repeat (first | apply Kd.V_alloc | apply Kd.V_drewN | apply Kd.V_drew)); exact Kd.V_mono HO357.out (fun _ hk => ⟨hk.1.2, ⟨hk.1.1, hk.2⟩⟩))⟩; replace HO362 : Aside0 (Kd.R Kd.string 9 w36 w.heap.size (fun _ => True) (.slice (some ad364) t360.length co37) t360) := ⟨by rw [← hq_]; exact (zR HO362)⟩; replace BK353 : Aside0 (w36.heap[gb353]? = some (.cells #[.string (⟨#[]⟩ : ByteArray), .string (⟨#[]⟩ : ByteArray), .string (⟨#[]⟩ : ByteArray), .string (⟨#[]⟩ : ByteArray), .slice none 0 0] 57 (0, 0))) := ⟨by rw [← hq_]; exact (zK BK353)⟩; replace BK363 : Aside0 (w36.heap[gb363]? = some (.cells #[.string (⟨#[]⟩ : ByteArray), .string (⟨#[]⟩ : ByteArray), .string (⟨#[]⟩ : ByteArray), .string (⟨#[]⟩ : ByteArray), .slice none 0 0] 57 (0, 0))) := ⟨by rw [← hq_]; exact (zK BK363)⟩; replace HB : Aside0 (Below w.heap.size w w36) := ⟨by rw [← hq_]; exact (zB2 HB GE353 GE363)⟩; clear hq_))) | ((with_reducible refine gate_callee (f := 48) rfl ?_); refine zg (some 51) Tryz.func48 #[.string t366, .string (⟨#[32]⟩ : ByteArray)] ?_; (with_reducible refine (strings_Cut.calls t366 (⟨#[32]⟩ : ByteArray) t368 t369 t370 _ ?side1 A25.out).mono ?_); (case side1 => exact ML.keep HML.out (zB2 HB GE353 GE363)); rintro e w' ⟨rfl, ⟨nd, rfl⟩⟩; refine ⟨_, rfl, ?_⟩; (try (rw [drewN_self w36]; generalize hq_ : World.drewN w36 _ = w36; replace HO357 : Aside0 (Kd.V (Kd.int .u8) 5 w36 w.heap.size (fun k_ => some k_ ≠ (.slice (some ad364) t360.length co37 : Value).ownBlock ∧ k_ ≠ gb353 ∧ k_ ≠ gb363) (.slice Ao32 y355.length co32) y355) := ⟨by rw [← hq_]; exact (by (with_reducible repeat (first | apply Kd.V_alloc | apply Kd.V_drewN | apply Kd.V_drew)); exact Kd.V_mono HO357.out (fun _ hk => ⟨hk.1.2, ⟨hk.1.1, hk.2⟩⟩))⟩; replace HO362 : Aside0 (Kd.R Kd.string 9 w36 w.heap.size (fun _ => True) (.slice (some ad364) t360.length co37) t360) := ⟨by rw [← hq_]; exact (zR HO362)⟩; replace BK353 : Aside0 (w36.heap[gb353]? = some (.cells #[.string (⟨#[]⟩ : ByteArray), .string (⟨#[]⟩ : ByteArray), .string (⟨#[]⟩ : ByteArray), .string (⟨#[]⟩ : ByteArray), .slice none 0 0] 57 (0, 0))) := ⟨by rw [← hq_]; exact (zK BK353)⟩; replace BK363 : Aside0 (w36.heap[gb363]? = some (.cells #[.string (⟨#[]⟩ : ByteArray), .string (⟨#[]⟩ : ByteArray), .string (⟨#[]⟩ : ByteArray), .string (⟨#[]⟩ : ByteArray), .slice none 0 0] 57 (0, 0))) := ⟨by rw [← hq_]; exact (zK BK363)⟩; replace HB : Aside0 (Below w.heap.size w w36) := ⟨by rw [← hq_]; exact (zB2 HB GE353 GE363)⟩; clear hq_))) | ((with_reducible refine gate_callee (f := 49) rfl ?_); refine zg (some 57) Tryz.func49 #[.string t368] ?_; (with_reducible refine (head_target.calls k t368 t371 t372 t373 t374 _ ?side1 A26.out).mono ?_); (case side1 => exact ML.keep HML.out (zB2 HB GE353 GE363)); rintro e w38 ⟨rfl, hb⟩; refine ⟨_, rfl, ?_⟩; replace HO357 := zN (Kd.V_below (by (with_reducible repeat (first | apply Kd.V_alloc | apply Kd.V_drewN | apply Kd.V_drew)); exact HO357.out) hb); replace HO362 := zN (Kd.R_below (zR HO362) hb); replace BK353 := zj BK353 hb; replace BK363 := zj BK363 hb; replace HB := zk2 HB GE353 GE363 hb; (try clear hb); (try clear hb2); (try clear hk); (try clear hi); have hnb39 := NB363_353.out; have hnc39 := NB353_363.out; obtain ⟨hcz40_0, hcz40_1, hcz40_2, hcz40_3, hcz40_4, hfz40_0, hfz40_1, hfz40_2, hfz40_3, hfz40_4⟩ := zC5 BK363))
  (try simp only [Act.put, List.setIfInBounds_toArray, List.set_cons_zero, List.set_cons_succ]);go_cut [75] (fun v75 wc => ∃ (kq : Nat) (x75_26 : Bool), v75 = .bool x75_26 ∧ Aside0 (head_Parse.j0 kq t358 t360 0 1 (⟨#[]⟩ : ByteArray) t365 x75_26 (⟨#[]⟩ : ByteArray) t371 t372 t373 = some (r1, r2, r3, r4, r5, r6, r7)) ∧ Aside0 (kq ≤ k) ∧ Aside0 (Kd.R Kd.string 9 wc w.heap.size (fun _ => True) (.slice (some ad364) t360.length co37) t360) ∧ Aside0 (wc.heap[gb353]? = some (.cells #[.string (⟨#[]⟩ : ByteArray), .string (⟨#[]⟩ : ByteArray), .string (⟨#[]⟩ : ByteArray), .string (⟨#[]⟩ : ByteArray), (.slice none 0 0)] 57 (0, 0))) ∧ Aside0 (wc.heap[gb363]? = some (.cells #[.string (⟨#[]⟩ : ByteArray), .string t371, .string t372, .string t373, (.slice none 0 0)] 57 (0, 0))) ∧ Aside0 (Below w.heap.size w wc))
  case first =>
    have H := HC27.out;clear HC27;by_cases c41 : t374 = true;rotate_left
    · replace c41 := zq.mpr c41;subst c41;have H1 := H; rw [zn (show ¬ (false = true) by decide)] at H1;clear H;have H := H1;clear H1;have H' := zN H;clear H;go_wp2;go_meet
      case rel => exact ⟨_, (true), zI, H', ⟨by first | omega | exact zh _⟩, ⟨by (with_reducible repeat (first | apply Kd.R_alloc | apply Kd.R_drewN | apply Kd.R_drew)); exact Kd.R_mono (Kd.R_far (p := ⟨gb363, 3, none⟩) (Kd.R_far (p := ⟨gb363, 2, none⟩) (Kd.R_far (p := ⟨gb363, 1, none⟩) (Kd.R_types HO362.out BK363.out (by decide)) (fun _ hk => hk.2) (.string t371)) (fun _ hk => hk.2) (.string t372)) (fun _ hk => hk.2) (.string t373)) (fun _ hk => trivial)⟩, ⟨zF1 BK353 NB353_363⟩, ⟨zF BK363⟩, ⟨zB2 HB GE353 GE363⟩⟩
    subst c41;have H1 := H; rw [zp rfl] at H1;clear H;have H := H1;clear H1;obtain ⟨t375, A42, H⟩ := zA H;(try dsimp only at H);by_cases c43 : t375 = true
    · subst c43;have H1 := H; rw [zp rfl] at H1;clear H;have H := H1;clear H1;have H' := zN H;clear H;go_wp2_with (first | (go_at_call 50; (with_reducible refine (head_token.calls k t365 true _ A42.out).mono ?_); rintro e w' ⟨rfl, ⟨nd, rfl⟩⟩));go_meet
      case rel => exact ⟨_, ((t369.toList != ([72, 84, 84, 80, 47, 49, 46, 49] : List UInt8))), zI, H', ⟨by first | omega | exact zh _⟩, ⟨by (with_reducible repeat (first | apply Kd.R_alloc | apply Kd.R_drewN | apply Kd.R_drew)); exact Kd.R_mono (Kd.R_far (p := ⟨gb363, 3, none⟩) (Kd.R_far (p := ⟨gb363, 2, none⟩) (Kd.R_far (p := ⟨gb363, 1, none⟩) (Kd.R_types HO362.out BK363.out (by decide)) (fun _ hk => hk.2) (.string t371)) (fun _ hk => hk.2) (.string t372)) (fun _ hk => hk.2) (.string t373)) (fun _ hk => trivial)⟩, ⟨zF1 BK353 NB353_363⟩, ⟨zF BK363⟩, ⟨zB2 HB GE353 GE363⟩⟩
    replace c43 := zq.mpr c43;subst c43;have H1 := H; rw [zn (show ¬ (false = true) by decide)] at H1;clear H;have H := H1;clear H1;have H' := zN H;clear H;go_wp2_with (first | (go_at_call 50; (with_reducible refine (head_token.calls k t365 false _ A42.out).mono ?_); rintro e w' ⟨rfl, ⟨nd, rfl⟩⟩));go_meet
    case rel => exact ⟨_, (true), zI, H', ⟨by first | omega | exact zh _⟩, ⟨by (with_reducible repeat (first | apply Kd.R_alloc | apply Kd.R_drewN | apply Kd.R_drew)); exact Kd.R_mono (Kd.R_far (p := ⟨gb363, 3, none⟩) (Kd.R_far (p := ⟨gb363, 2, none⟩) (Kd.R_far (p := ⟨gb363, 1, none⟩) (Kd.R_types HO362.out BK363.out (by decide)) (fun _ hk => hk.2) (.string t371)) (fun _ hk => hk.2) (.string t372)) (fun _ hk => hk.2) (.string t373)) (fun _ hk => trivial)⟩, ⟨zF1 BK353 NB353_363⟩, ⟨zF BK363⟩, ⟨zB2 HB GE353 GE363⟩⟩
  case rest =>
    clear HC27
    try clear c2
    try clear p2
    try clear c3
    try clear c3b0
    try clear c3b1
    try clear p3
    try clear q3
    try clear hx3
    try clear hcv3
    try clear qi3
    try clear c4
    try clear c4b0
    try clear c4b1
    try clear c6
    try clear c6b0
    try clear c7
    try clear c7b0
    try clear c7b1
    try clear c20
    try clear c20b0
    try clear c20b1
    try clear c21
    try clear c21b0
    try clear c21b1
    try clear c23
    try clear c23b0
    try clear c23b1
    try clear c27
    try clear hcv34
    try clear p36
    try clear q36
    try clear hx36
    try clear qi36
    try clear c39
    try clear c41
    try clear c43
    try clear hcz13_0
    try clear hcz13_1
    try clear hcz13_2
    try clear hcz13_3
    try clear hcz13_4
    try clear hcz19_0
    try clear hcz19_1
    try clear hcz19_2
    try clear hcz19_3
    try clear hcz19_4
    try clear hcz40_0
    try clear hcz40_1
    try clear hcz40_2
    try clear hcz40_3
    try clear hcz40_4
    try clear hfz13_0
    try clear hfz13_1
    try clear hfz13_2
    try clear hfz13_3
    try clear hfz13_4
    try clear hfz19_0
    try clear hfz19_1
    try clear hfz19_2
    try clear hfz19_3
    try clear hfz19_4
    try clear hfz40_0
    try clear hfz40_1
    try clear hfz40_2
    try clear hfz40_3
    try clear hfz40_4
    try clear hx364_0
    try clear p364
    try clear q364
    obtain ⟨kq, x75_26, rfl, HA, HJ26, HO_6, BK353, BK363, HB⟩ := hcut;cases kq with
    | zero => exact absurd HA.out (by simp [head_Parse.j0])
    | succ kj26 =>
      have H := HA.out;clear HA;simp only [head_Parse.j0] at H;by_cases c44 : x75_26 = true
      · subst c44;have H1 := H; rw [zp rfl] at H1;clear H;have H := H1;clear H1;simp only [Option.some.injEq, Prod.mk.injEq] at H;obtain ⟨rfl, rfl, rfl, rfl, rfl, rfl, rfl⟩ := H;have hnb45 := NB353_363.out;have hnc45 := NB363_353.out;obtain ⟨hcz46_0, hcz46_1, hcz46_2, hcz46_3, hcz46_4, hfz46_0, hfz46_1, hfz46_2, hfz46_3, hfz46_4⟩ := zC5 BK353;go_wp2;(try ((with_reducible refine wp_goto ?_); refine Or.inl ⟨rfl, ?_⟩; refine hK0.out _ _ ?_; go_wp2));(try simp only [Exit.two_ret, Exit.noGoto_ret]);refine bodyPost_ret (results_ctt rfl _ _ gb353 57 #[.string (⟨#[]⟩ : ByteArray), .string (⟨#[]⟩ : ByteArray), .string (⟨#[]⟩ : ByteArray), .string (⟨#[]⟩ : ByteArray), .slice none 0 0] (0, 0) _ rfl (zF BK353) Tryz.underlying57 rfl zQ) rfl ?_;exact ⟨_, by first | rfl | (simp [errW_none, errW_some] <;> rfl) | (simp only [← hji2]; first | rfl | (simp [errW_none, errW_some] <;> rfl)) | (simp [*, errW_none, errW_some] <;> rfl), by first | exact Kd.R_nil _ _ _ _ _ | exact Kd.N_nil _ _ _ _ _ | exact Kd.V_nil _ _ _ _ _ | exact Kd.Q_nil _ _ _ _ _ | exact Kd.S_nil _ _ _ _ _, zB2 HB GE353 GE363⟩
      replace c44 := zq.mpr c44;subst c44;have H1 := H; rw [zn (show ¬ (false = true) by decide)] at H1;clear H;have H := H1;clear H1;have H' := zN H;clear H;have hnb47 := NB363_353.out;have hnc47 := NB353_363.out;obtain ⟨hcz48_0, hcz48_1, hcz48_2, hcz48_3, hcz48_4, hfz48_0, hfz48_1, hfz48_2, hfz48_3, hfz48_4⟩ := zC5 BK363;go_wp2;go_step3;go_step;go_step;refine Scope.LW.enter hK1.out ?_;refine head_Parse.loop1 kj26 (fun kq v9 v10 v11 w' => ∃ (x9_2 : Int) (x10_2 : Int) (x11_2 : ByteArray) (x354000_2 : ByteArray) (x354001_2 : ByteArray) (x354002_2 : ByteArray) (x354003_2 : ByteArray) (x364004_2 : List (S84)) (u364004 : Value), v9 = .int .i64 x9_2 ∧ v10 = .int .i64 x10_2 ∧ v11 = .string x11_2 ∧ Aside0 (head_Parse.l0 kq t358 t360 x9_2 x10_2 x11_2 t365 t371 t372 t373 x364004_2 = some (r1, r2, r3, r4, r5, r6, r7)) ∧ Aside0 (kq ≤ kj26) ∧ Aside0 (Kd.R Kd.string 9 w' w.heap.size (fun _ => True) (.slice (some ad364) t360.length co37) t360) ∧ Aside0 (Kd.R k84 84 w' w.heap.size (fun _ => True) u364004 x364004_2) ∧ Aside0 (w'.heap[gb353]? = some (.cells #[.string x354000_2, .string x354001_2, .string x354002_2, .string x354003_2, (.slice none 0 0)] 57 (0, 0))) ∧ Aside0 (w'.heap[gb363]? = some (.cells #[.string t365, .string t371, .string t372, .string t373, u364004] 57 (0, 0))) ∧ Aside0 (Below w.heap.size w w')) ?atStart ?round
      case atStart => exact ⟨(0), (1), ((⟨#[]⟩ : ByteArray)), ((⟨#[]⟩ : ByteArray)), ((⟨#[]⟩ : ByteArray)), ((⟨#[]⟩ : ByteArray)), ((⟨#[]⟩ : ByteArray)), (([] : List (S84))), (.slice none 0 0), zI, zI, zI, H', ⟨zh _⟩, ⟨by (with_reducible repeat (first | apply Kd.R_alloc | apply Kd.R_drewN | apply Kd.R_drew)); exact Kd.R_mono (Kd.R_far (p := ⟨gb363, 0, none⟩) (Kd.R_types HO_6.out BK363.out (by decide)) (fun _ hk => hk.2) (.string t365)) (fun _ hk => trivial)⟩, ⟨by first | exact Kd.R_nil _ _ _ _ _ | exact Kd.N_nil _ _ _ _ _ | exact Kd.V_nil _ _ _ _ _ | exact Kd.Q_nil _ _ _ _ _ | exact Kd.S_nil _ _ _ _ _⟩, ⟨zF1 BK353 NB353_363⟩, ⟨zF BK363⟩, ⟨zB2 HB GE353 GE363⟩⟩
      case round =>
        intro gk wr u9 u10 u11 u18 u19 u20 u78 u79 u80 u81 u82 u83 u84 u85 u86 u87 u88 u89 u90 u91 u92 u93 u94 u95 u96 u97 u98 u99 u100 u101 u102 u103 u104 u105 u106 u107 u108 u109 u110 u111 u112 u113 u114 u115 u116 u117 u118 u119 u120 u121 u122 u123 u124 u125 u126 u127 hrel _ _ _ _;clear H'
        try clear c2
        try clear p2
        try clear c3
        try clear c3b0
        try clear c3b1
        try clear p3
        try clear q3
        try clear hx3
        try clear hcv3
        try clear qi3
        try clear c4
        try clear c4b0
        try clear c4b1
        try clear c6
        try clear c6b0
        try clear c7
        try clear c7b0
        try clear c7b1
        try clear c20
        try clear c20b0
        try clear c20b1
        try clear c21
        try clear c21b0
        try clear c21b1
        try clear c23
        try clear c23b0
        try clear c23b1
        try clear c27
        try clear hcv34
        try clear p36
        try clear q36
        try clear hx36
        try clear qi36
        try clear c39
        try clear c41
        try clear c43
        try clear c44
        try clear c45
        try clear c46
        try clear c47
        try clear c48
        try clear hcz13_0
        try clear hcz13_1
        try clear hcz13_2
        try clear hcz13_3
        try clear hcz13_4
        try clear hcz19_0
        try clear hcz19_1
        try clear hcz19_2
        try clear hcz19_3
        try clear hcz19_4
        try clear hcz40_0
        try clear hcz40_1
        try clear hcz40_2
        try clear hcz40_3
        try clear hcz40_4
        try clear hcz46_0
        try clear hcz46_1
        try clear hcz46_2
        try clear hcz46_3
        try clear hcz46_4
        try clear hcz48_0
        try clear hcz48_1
        try clear hcz48_2
        try clear hcz48_3
        try clear hcz48_4
        try clear hfz13_0
        try clear hfz13_1
        try clear hfz13_2
        try clear hfz13_3
        try clear hfz13_4
        try clear hfz19_0
        try clear hfz19_1
        try clear hfz19_2
        try clear hfz19_3
        try clear hfz19_4
        try clear hfz40_0
        try clear hfz40_1
        try clear hfz40_2
        try clear hfz40_3
        try clear hfz40_4
        try clear hfz46_0
        try clear hfz46_1
        try clear hfz46_2
        try clear hfz46_3
        try clear hfz46_4
        try clear hfz48_0
        try clear hfz48_1
        try clear hfz48_2
        try clear hfz48_3
        try clear hfz48_4
        try clear hx364_0
        try clear p2
        try clear p3
        try clear p36
        try clear p364
        try clear q3
        try clear q36
        try clear q364
        obtain ⟨x9_2, x10_2, x11_2, x354000_2, x354001_2, x354002_2, x354003_2, x364004_2, u364004, rfl, rfl, rfl, HA, HK2, HO_6, HO_364004, BK353, BK363, HB⟩ := hrel;cases gk with
        | zero => exact absurd HA.out (by simp [head_Parse.l0])
        | succ k2 =>
          have H := HA.out;clear HA;simp only [head_Parse.l0] at H;by_cases c49 : x10_2 < (t360.length : Int);rotate_left
          · rw [zn c49] at H;have c49b0 := zf c49;clear c49;by_cases c90 : x9_2 = 1;rotate_left
            · rw [zn c90] at H;have c90b0 := zb.mpr c90;have c90b1 := bne_iff_ne.mpr c90;simp only [Option.some.injEq, Prod.mk.injEq] at H;obtain ⟨rfl, rfl, rfl, rfl, rfl, rfl, rfl⟩ := H;have hnb105 := NB353_363.out;have hnc105 := NB363_353.out;obtain ⟨hcz106_0, hcz106_1, hcz106_2, hcz106_3, hcz106_4, hfz106_0, hfz106_1, hfz106_2, hfz106_3, hfz106_4⟩ := zC5 BK353;go_wp2;(try ((with_reducible refine wp_goto ?_); refine Or.inl ⟨rfl, ?_⟩; refine hK0.out _ _ ?_; go_wp2));(try simp only [Exit.two_ret, Exit.noGoto_ret]);refine bodyPost_ret (results_ctt rfl _ _ gb353 57 #[.string (⟨#[]⟩ : ByteArray), .string (⟨#[]⟩ : ByteArray), .string (⟨#[]⟩ : ByteArray), .string (⟨#[]⟩ : ByteArray), .slice none 0 0] (0, 0) _ rfl (zF BK353) Tryz.underlying57 rfl zQ) rfl ?_;exact ⟨_, by first | rfl | (simp [errW_none, errW_some] <;> rfl) | (simp only [← hji2]; first | rfl | (simp [errW_none, errW_some] <;> rfl)) | (simp [*, errW_none, errW_some] <;> rfl), by first | exact Kd.R_nil _ _ _ _ _ | exact Kd.N_nil _ _ _ _ _ | exact Kd.V_nil _ _ _ _ _ | exact Kd.Q_nil _ _ _ _ _ | exact Kd.S_nil _ _ _ _ _, zB2 HB GE353 GE363⟩
            rw [zp c90] at H;have c90b0 := beq_iff_eq.mpr c90;have c90b1 := zc.mpr c90;clear c90;by_cases c91 : (x364004_2.length : Int) > 32
            · rw [zp c91] at H;have c91b0 : decide (32 < (x364004_2.length : Int)) = true := zt c91;have c91b1 : decide (32 < x364004_2.length) = true := zt zO;clear c91;simp only [Option.some.injEq, Prod.mk.injEq] at H;obtain ⟨rfl, rfl, rfl, rfl, rfl, rfl, rfl⟩ := H;have hnb92 := NB363_353.out;have hnc92 := NB353_363.out;obtain ⟨hcz93_0, hcz93_1, hcz93_2, hcz93_3, hcz93_4, hfz93_0, hfz93_1, hfz93_2, hfz93_3, hfz93_4⟩ := zC5 BK363;obtain ⟨Ao94, co94, eo94⟩ := Kd.R_slice HO_364004.out;subst eo94;obtain ⟨hcz95_0, hcz95_1, hcz95_2, hcz95_3, hcz95_4, hfz95_0, hfz95_1, hfz95_2, hfz95_3, hfz95_4⟩ := zC5 BK353;go_wp2;(try ((with_reducible refine wp_goto ?_); refine Or.inl ⟨rfl, ?_⟩; refine hK0.out _ _ ?_; go_wp2));(try simp only [Exit.two_ret, Exit.noGoto_ret]);refine bodyPost_ret (results_ctt rfl _ _ gb353 57 #[.string (⟨#[]⟩ : ByteArray), .string (⟨#[]⟩ : ByteArray), .string (⟨#[]⟩ : ByteArray), .string (⟨#[]⟩ : ByteArray), .slice none 0 0] (0, 0) _ rfl (zF BK353) Tryz.underlying57 rfl zQ) rfl ?_;exact ⟨_, by first | rfl | (simp [errW_none, errW_some] <;> rfl) | (simp only [← hji2]; first | rfl | (simp [errW_none, errW_some] <;> rfl)) | (simp [*, errW_none, errW_some] <;> rfl), by first | exact Kd.R_nil _ _ _ _ _ | exact Kd.N_nil _ _ _ _ _ | exact Kd.V_nil _ _ _ _ _ | exact Kd.Q_nil _ _ _ _ _ | exact Kd.S_nil _ _ _ _ _, zB2 HB GE353 GE363⟩
            rw [zn c91] at H;have c91b0 : decide (32 < (x364004_2.length : Int)) = false := zf c91;have c91b1 : decide (32 < x364004_2.length) = false := zf zO;clear c91;by_cases c96 : t373.toList = ([] : List UInt8)
            · rw [zp c96] at H;have c96b0 := beq_iff_eq.mpr c96;have c96b1 := zc.mpr c96;clear c96;simp only [Option.some.injEq, Prod.mk.injEq] at H;obtain ⟨rfl, rfl, rfl, rfl, rfl, rfl, rfl⟩ := H;have hnb97 := NB363_353.out;have hnc97 := NB353_363.out;obtain ⟨hcz98_0, hcz98_1, hcz98_2, hcz98_3, hcz98_4, hfz98_0, hfz98_1, hfz98_2, hfz98_3, hfz98_4⟩ := zC5 BK363;obtain ⟨Ao99, co99, eo99⟩ := Kd.R_slice HO_364004.out;subst eo99;obtain ⟨hcz100_0, hcz100_1, hcz100_2, hcz100_3, hcz100_4, hfz100_0, hfz100_1, hfz100_2, hfz100_3, hfz100_4⟩ := zC5 BK353;go_wp2;(try ((with_reducible refine wp_goto ?_); refine Or.inl ⟨rfl, ?_⟩; refine hK0.out _ _ ?_; go_wp2));(try simp only [Exit.two_ret, Exit.noGoto_ret]);refine bodyPost_ret (results_ctt rfl _ _ gb353 57 #[.string t365, .string t371, .string t372, .string x11_2, .slice Ao99 x364004_2.length co99] (0, 0) _ rfl (by (with_reducible repeat (first | refine blk_drewN ?_ _ | refine blk_drew ?_ | refine blk_alloc ?_ _)); refine blk_put (cs := #[.string t365, .string t371, .string t372, .string x11_2, .slice none 0 0]) ?_ 4 _ rfl; (with_reducible repeat (first | refine blk_drewN ?_ _ | refine blk_drew ?_ | refine blk_alloc ?_ _)); refine blk_put (cs := #[.string t365, .string t371, .string t372, .string x354003_2, .slice none 0 0]) ?_ 3 _ rfl; (with_reducible repeat (first | refine blk_drewN ?_ _ | refine blk_drew ?_ | refine blk_alloc ?_ _)); refine blk_put (cs := #[.string t365, .string t371, .string x354002_2, .string x354003_2, .slice none 0 0]) ?_ 2 _ rfl; (with_reducible repeat (first | refine blk_drewN ?_ _ | refine blk_drew ?_ | refine blk_alloc ?_ _)); refine blk_put (cs := #[.string t365, .string x354001_2, .string x354002_2, .string x354003_2, .slice none 0 0]) ?_ 1 _ rfl; (with_reducible repeat (first | refine blk_drewN ?_ _ | refine blk_drew ?_ | refine blk_alloc ?_ _)); refine blk_put (cs := #[.string x354000_2, .string x354001_2, .string x354002_2, .string x354003_2, .slice none 0 0]) ?_ 0 _ rfl; (with_reducible repeat (first | refine blk_drewN ?_ _ | refine blk_drew ?_ | refine blk_alloc ?_ _)); refine blk_far ?_ NB353_363.out _; (with_reducible repeat (first | refine blk_drewN ?_ _ | refine blk_drew ?_ | refine blk_alloc ?_ _)); exact BK353.out) Tryz.underlying57 rfl zQ) rfl ?_;exact ⟨_, by first | rfl | (simp [errW_none, errW_some] <;> rfl) | (simp only [← hji2]; first | rfl | (simp [errW_none, errW_some] <;> rfl)) | (simp [*, errW_none, errW_some] <;> rfl), by (with_reducible repeat (first | apply Kd.R_alloc | apply Kd.R_drewN | apply Kd.R_drew)); exact Kd.R_mono (Kd.R_far (p := ⟨gb353, 4, none⟩) (Kd.R_far (p := ⟨gb353, 3, none⟩) (Kd.R_far (p := ⟨gb353, 2, none⟩) (Kd.R_far (p := ⟨gb353, 1, none⟩) (Kd.R_far (p := ⟨gb353, 0, none⟩) (Kd.R_far (p := ⟨gb363, 3, none⟩) (Kd.R_types (Kd.R_types HO_364004.out BK363.out (by decide)) BK353.out (by decide)) (fun _ hk => hk.1.2) (.string x11_2)) (fun _ hk => hk.2) (.string t365)) (fun _ hk => hk.2) (.string t371)) (fun _ hk => hk.2) (.string t372)) (fun _ hk => hk.2) (.string x11_2)) (fun _ hk => hk.2) (.slice Ao99 x364004_2.length co99)) (fun _ hk => trivial), zB2 HB GE353 GE363⟩
            rw [zn c96] at H;have c96b0 := zb.mpr c96;have c96b1 := bne_iff_ne.mpr c96;simp only [Option.some.injEq, Prod.mk.injEq] at H;obtain ⟨rfl, rfl, rfl, rfl, rfl, rfl, rfl⟩ := H;have hnb101 := NB363_353.out;have hnc101 := NB353_363.out;obtain ⟨hcz102_0, hcz102_1, hcz102_2, hcz102_3, hcz102_4, hfz102_0, hfz102_1, hfz102_2, hfz102_3, hfz102_4⟩ := zC5 BK363;obtain ⟨Ao103, co103, eo103⟩ := Kd.R_slice HO_364004.out;subst eo103;obtain ⟨hcz104_0, hcz104_1, hcz104_2, hcz104_3, hcz104_4, hfz104_0, hfz104_1, hfz104_2, hfz104_3, hfz104_4⟩ := zC5 BK353;go_wp2;(try ((with_reducible refine wp_goto ?_); refine Or.inl ⟨rfl, ?_⟩; refine hK0.out _ _ ?_; go_wp2));(try simp only [Exit.two_ret, Exit.noGoto_ret]);refine bodyPost_ret (results_ctt rfl _ _ gb353 57 #[.string t365, .string t371, .string t372, .string t373, .slice Ao103 x364004_2.length co103] (0, 0) _ rfl (zF BK353) Tryz.underlying57 rfl zQ) rfl ?_;exact ⟨_, by first | rfl | (simp [errW_none, errW_some] <;> rfl) | (simp only [← hji2]; first | rfl | (simp [errW_none, errW_some] <;> rfl)) | (simp [*, errW_none, errW_some] <;> rfl), by (with_reducible repeat (first | apply Kd.R_alloc | apply Kd.R_drewN | apply Kd.R_drew)); exact Kd.R_mono (Kd.R_far (p := ⟨gb353, 4, none⟩) (Kd.R_far (p := ⟨gb353, 3, none⟩) (Kd.R_far (p := ⟨gb353, 2, none⟩) (Kd.R_far (p := ⟨gb353, 1, none⟩) (Kd.R_far (p := ⟨gb353, 0, none⟩) (Kd.R_types HO_364004.out BK353.out (by decide)) (fun _ hk => hk.2) (.string t365)) (fun _ hk => hk.2) (.string t371)) (fun _ hk => hk.2) (.string t372)) (fun _ hk => hk.2) (.string t373)) (fun _ hk => hk.2) (.slice Ao103 x364004_2.length co103)) (fun _ hk => trivial), zB2 HB GE353 GE363⟩
          rw [zp c49] at H;have c49b0 := zt c49;clear c49;by_cases c50 : 0 ≤ x10_2;rotate_left
          · rw [zn c50] at H;exact absurd H (by simp)
          rw [zp c50] at H;have c50b0 := zt c50;clear c50;obtain ⟨⟨t377, t378, t379⟩, A51, H⟩ := zA H;(try dsimp only at H);obtain ⟨t380, A52, H⟩ := zA H;(try dsimp only at H);have HC53 := zN H;clear H;have p376 : 0 ≤ (x10_2 : Int) := zd zS;have q376 : x10_2 < (t360.length : Int) := zd zS;obtain ⟨ad376, e376, hx376_0⟩ := Kd.at_string (Kd.R_reads' HO_6.out).2.2 x10_2 p376 q376;obtain rfl : ad364 = ad376 := (by injection e376);replace p376 := zu p376;replace q376 := zu q376;go_upto_region 18 with (first | ((with_reducible refine gate_callee (f := 48) rfl ?_); refine zg (some 87) Tryz.func48 #[.string (rdOf ByteArray.empty t360 x10_2), .string (⟨#[58]⟩ : ByteArray)] ?_; (with_reducible refine (strings_Cut.calls (rdOf ByteArray.empty t360 x10_2) (⟨#[58]⟩ : ByteArray) t377 t378 t379 _ ?side1 A51.out).mono ?_); (case side1 => exact ML.keep HML.out (zB2 HB GE353 GE363)); rintro e w' ⟨rfl, ⟨nd, rfl⟩⟩; refine ⟨_, rfl, ?_⟩) | ((with_reducible refine gate_callee (f := 51) rfl ?_); refine zg (some 92) Tryz.func51 #[.string t378, .string (⟨#[9, 32]⟩ : ByteArray)] ?_; (with_reducible refine (strings_Trim.calls t378 (⟨#[9, 32]⟩ : ByteArray) t380 _ A52.out).mono ?_); rintro e w54 ⟨rfl, hb⟩; refine ⟨_, rfl, ?_⟩; replace HO_6 := zN (Kd.R_below (zR HO_6) hb); replace HO_364004 := zN (Kd.R_below (zR HO_364004) hb); replace BK353 := zj BK353 hb; replace BK363 := zj BK363 hb; replace HB := zk2 HB GE353 GE363 hb; (try clear hb); (try clear hb2); (try clear hk); (try clear hi)))
          (try simp only [Act.put, List.setIfInBounds_toArray, List.set_cons_zero, List.set_cons_succ]);go_cut [104] from 78 to 127 (fun v104 wc => ∃ (kq : Nat) (x104_52 : Bool), v104 = .bool x104_52 ∧ Aside0 (head_Parse.j2 kq t358 t360 x9_2 x10_2 x11_2 t377 t380 x104_52 t365 t371 t372 t373 x364004_2 = some (r1, r2, r3, r4, r5, r6, r7)) ∧ Aside0 (kq ≤ k2) ∧ Aside0 (Kd.R Kd.string 9 wc w.heap.size (fun _ => True) (.slice (some ad364) t360.length co37) t360) ∧ Aside0 (Kd.R k84 84 wc w.heap.size (fun _ => True) u364004 x364004_2) ∧ Aside0 (wc.heap[gb353]? = some (.cells #[.string x354000_2, .string x354001_2, .string x354002_2, .string x354003_2, (.slice none 0 0)] 57 (0, 0))) ∧ Aside0 (wc.heap[gb363]? = some (.cells #[.string t365, .string t371, .string t372, .string t373, u364004] 57 (0, 0))) ∧ Aside0 (Below w.heap.size w wc))
          case first =>
            have H := HC53.out;clear HC53;by_cases c55 : t379 = true;rotate_left
            · replace c55 := zq.mpr c55;subst c55;have H1 := H; rw [zn (show ¬ (false = true) by decide)] at H1;clear H;have H := H1;clear H1;have H' := zN H;clear H;go_wp2;go_meet
              case rel => exact ⟨_, (true), zI, H', ⟨by have := HJ26.out; have := HK2.out; first | omega | exact zh _⟩, ⟨zR HO_6⟩, ⟨zR HO_364004⟩, ⟨zK BK353⟩, ⟨zK BK363⟩, ⟨zB2 HB GE353 GE363⟩⟩
            subst c55;have H1 := H; rw [zp rfl] at H1;clear H;have H := H1;clear H1;obtain ⟨t381, A56, H⟩ := zA H;(try dsimp only at H);by_cases c57 : t381 = true
            · subst c57;have H1 := H; rw [zp rfl] at H1;clear H;have H := H1;clear H1;obtain ⟨t382, A58, H⟩ := zA H;(try dsimp only at H);have H' := zN H;clear H;go_wp2_with (first | (go_at_call 50; (with_reducible refine (head_token.calls k2 t377 true _ A56.out).mono ?_); rintro e w' ⟨rfl, ⟨nd, rfl⟩⟩) | (go_at_call 52; (with_reducible refine (head_value.calls k2 t380 t382 _ A58.out).mono ?_); rintro e w' ⟨rfl, ⟨nd, rfl⟩⟩));go_meet
              case rel => exact ⟨_, (!t382), zI, H', ⟨by have := HJ26.out; have := HK2.out; first | omega | exact zh _⟩, ⟨zR HO_6⟩, ⟨zR HO_364004⟩, ⟨zK BK353⟩, ⟨zK BK363⟩, ⟨zB2 HB GE353 GE363⟩⟩
            replace c57 := zq.mpr c57;subst c57;have H1 := H; rw [zn (show ¬ (false = true) by decide)] at H1;clear H;have H := H1;clear H1;have H' := zN H;clear H;go_wp2_with (first | (go_at_call 50; (with_reducible refine (head_token.calls k2 t377 false _ A56.out).mono ?_); rintro e w' ⟨rfl, ⟨nd, rfl⟩⟩));go_meet
            case rel => exact ⟨_, (true), zI, H', ⟨by have := HJ26.out; have := HK2.out; first | omega | exact zh _⟩, ⟨zR HO_6⟩, ⟨zR HO_364004⟩, ⟨zK BK353⟩, ⟨zK BK363⟩, ⟨zB2 HB GE353 GE363⟩⟩
          case rest =>
            clear HC53
            try clear c2
            try clear p2
            try clear c3
            try clear c3b0
            try clear c3b1
            try clear p3
            try clear q3
            try clear hx3
            try clear hcv3
            try clear qi3
            try clear c4
            try clear c4b0
            try clear c4b1
            try clear c5
            try clear c6
            try clear c6b0
            try clear c7
            try clear c7b0
            try clear c7b1
            try clear c20
            try clear c20b0
            try clear c20b1
            try clear c21
            try clear c21b0
            try clear c21b1
            try clear c23
            try clear c23b0
            try clear c23b1
            try clear c27
            try clear hcv34
            try clear p36
            try clear q36
            try clear hx36
            try clear qi36
            try clear p37
            try clear q37
            try clear hx37
            try clear c39
            try clear c41
            try clear c43
            try clear c44
            try clear c45
            try clear c46
            try clear c47
            try clear c48
            try clear c49
            try clear c49b0
            try clear c50
            try clear c50b0
            try clear c51
            try clear c55
            try clear c57
            try clear hcz13_0
            try clear hcz13_1
            try clear hcz13_2
            try clear hcz13_3
            try clear hcz13_4
            try clear hcz19_0
            try clear hcz19_1
            try clear hcz19_2
            try clear hcz19_3
            try clear hcz19_4
            try clear hcz40_0
            try clear hcz40_1
            try clear hcz40_2
            try clear hcz40_3
            try clear hcz40_4
            try clear hcz46_0
            try clear hcz46_1
            try clear hcz46_2
            try clear hcz46_3
            try clear hcz46_4
            try clear hcz48_0
            try clear hcz48_1
            try clear hcz48_2
            try clear hcz48_3
            try clear hcz48_4
            try clear hfz13_0
            try clear hfz13_1
            try clear hfz13_2
            try clear hfz13_3
            try clear hfz13_4
            try clear hfz19_0
            try clear hfz19_1
            try clear hfz19_2
            try clear hfz19_3
            try clear hfz19_4
            try clear hfz40_0
            try clear hfz40_1
            try clear hfz40_2
            try clear hfz40_3
            try clear hfz40_4
            try clear hfz46_0
            try clear hfz46_1
            try clear hfz46_2
            try clear hfz46_3
            try clear hfz46_4
            try clear hfz48_0
            try clear hfz48_1
            try clear hfz48_2
            try clear hfz48_3
            try clear hfz48_4
            try clear hx364_0
            try clear hx376_0
            try clear p2
            try clear p3
            try clear p36
            try clear p364
            try clear p376
            try clear q3
            try clear q36
            try clear q364
            try clear q376
            obtain ⟨kq, x104_52, rfl, HA, HJ52, HO_6, HO_364004, BK353, BK363, HB⟩ := hcut;cases kq with
            | zero => exact absurd HA.out (by simp [head_Parse.j2])
            | succ kj52 =>
              have H := HA.out;clear HA;simp only [head_Parse.j2] at H;by_cases c59 : x104_52 = true
              · subst c59;have H1 := H; rw [zp rfl] at H1;clear H;have H := H1;clear H1;simp only [Option.some.injEq, Prod.mk.injEq] at H;obtain ⟨rfl, rfl, rfl, rfl, rfl, rfl, rfl⟩ := H;have hnb60 := NB353_363.out;have hnc60 := NB363_353.out;obtain ⟨hcz61_0, hcz61_1, hcz61_2, hcz61_3, hcz61_4, hfz61_0, hfz61_1, hfz61_2, hfz61_3, hfz61_4⟩ := zC5 BK353;go_wp2;(try ((with_reducible refine wp_goto ?_); refine Or.inl ⟨rfl, ?_⟩; refine hK0.out _ _ ?_; go_wp2));(try simp only [Exit.two_ret, Exit.noGoto_ret]);refine bodyPost_ret (results_ctt rfl _ _ gb353 57 #[.string (⟨#[]⟩ : ByteArray), .string (⟨#[]⟩ : ByteArray), .string (⟨#[]⟩ : ByteArray), .string (⟨#[]⟩ : ByteArray), .slice none 0 0] (0, 0) _ rfl (zF BK353) Tryz.underlying57 rfl zQ) rfl ?_;exact ⟨_, by first | rfl | (simp [errW_none, errW_some] <;> rfl) | (simp only [← hji2]; first | rfl | (simp [errW_none, errW_some] <;> rfl)) | (simp [*, errW_none, errW_some] <;> rfl), by first | exact Kd.R_nil _ _ _ _ _ | exact Kd.N_nil _ _ _ _ _ | exact Kd.V_nil _ _ _ _ _ | exact Kd.Q_nil _ _ _ _ _ | exact Kd.S_nil _ _ _ _ _, zB2 HB GE353 GE363⟩
              replace c59 := zq.mpr c59;subst c59;have H1 := H; rw [zn (show ¬ (false = true) by decide)] at H1;clear H;have H := H1;clear H1;obtain ⟨t383, A62, H⟩ := zA H;(try dsimp only at H);by_cases c63 : x364004_2.length < 4398046511104;rotate_left
              · rw [zn c63] at H;exact absurd H (by simp)
              rw [zp c63] at H;have LMc63 := zN c63;clear c63;obtain ⟨y384, hy384⟩ : ∃ y_ : List (S84), y_ = (x364004_2 ++ [(⟨t383, t380⟩ : S84)]) := ⟨_, rfl⟩;replace H : ((head_lower.f t377).bind fun t387 => (if t387.toList = ([104, 111, 115, 116] : List UInt8) then ((head_Host.f kj52 t380).bind fun bt388 => (if bt388.2 = true then (head_Parse.l0 kj52 t358 t360 (wrap64 (x9_2 + 1)) (wrap64 (x10_2 + 1)) bt388.1 t365 t371 t372 t373 y384) else (some ((⟨#[]⟩ : ByteArray), (⟨#[]⟩ : ByteArray), (⟨#[]⟩ : ByteArray), (⟨#[]⟩ : ByteArray), ([] : List (S84)), 0, 4)))) else (head_Parse.l0 kj52 t358 t360 x9_2 (wrap64 (x10_2 + 1)) x11_2 t365 t371 t372 t373 y384))) = some (r1, r2, r3, r4, r5, r6, r7) := by first | (rw [hy384]; with_reducible exact H) | (have H2_ := (Option.bind_some _ _).symm.trans H; rw [hy384]; with_reducible exact H2_) | (have H2_ := (Option.bind_some _ _).symm.trans H; with_reducible exact H2_) | with_reducible exact H | (rw [hy384]; exact H) | exact H
              have Ny384 := zN hy384;clear hy384;obtain ⟨t387, A64, H⟩ := zA H;(try dsimp only at H);by_cases c65 : t387.toList = ([104, 111, 115, 116] : List UInt8);rotate_left
              · rw [zn c65] at H;have c65b0 := zb.mpr c65;have c65b1 := bne_iff_ne.mpr c65;have H' := zN H;clear H
                try go_wp2
                replace HO_6 := zN (Kd.R_drew HO_6.out);replace HO_364004 := zN (Kd.R_drew HO_364004.out);replace BK353 := zN (blk_drew BK353.out);replace BK363 := zN (blk_drew BK363.out);replace HB := zN (below_drew1 HB.out);refine start_ (n := 10) (S := fun w' => w'.cell? ⟨gb363, 0, none⟩ = some (.string t365) ∧ w'.cell? ⟨gb363, 1, none⟩ = some (.string t371) ∧ w'.cell? ⟨gb363, 2, none⟩ = some (.string t372) ∧ w'.cell? ⟨gb363, 3, none⟩ = some (.string t373) ∧ w'.cell? ⟨gb363, 4, none⟩ = some (u364004)) (ds := [9]) #[false, false, false, false, false, false, false, false, false, false] zQ rfl rfl ⟨(blk_cell BK363.out 0).trans rfl, (blk_cell BK363.out 1).trans rfl, (blk_cell BK363.out 2).trans rfl, (blk_cell BK363.out 3).trans rfl, (blk_cell BK363.out 4).trans rfl⟩ (fun hHeld => ?_); refine with_tabW head_Parse.tab19 head_Parse.bits19 (fun HT_ HW_ => ?_);generalize wc.drew = w84 at HO_6 HO_364004 BK353 BK363 HB hHeld ⊢;refine zU (i := 0) (N := some 105) #[true, false, false, false, false, false, false, false, false, false] rfl rfl HT_ ?_;refine zU (i := 2) (N := some 107) #[true, false, true, false, false, false, false, false, false, false] rfl rfl HT_ ?_;refine zU (i := 4) (N := some 109) #[true, false, true, false, true, false, false, false, false, false] rfl rfl HT_ ?_;refine take_ (i := 1) (N := some 106) (v := ?_) (a' := ?_) #[true, true, true, false, true, false, false, false, false, false] rfl rfl (take_ofW HT_.out HW_.out zQ) (fun _ _ _ h => h) (Or.inl ⟨by rfl, ?_⟩) hHeld ?_ ?_;rotate_left
                · rintro w' ⟨s0, s1, s2, s3, s4⟩;go_simp
                  with_reducible rfl
                rotate_left
                · simp only [zP];rfl
                refine one_ (i := 3) (N := some 108) #[true, true, true, true, true, false, false, false, false, false] rfl rfl (one_of HT_.out zQ) (by decide) (fun K hK => ?_);refine goes_ Tryz.func53 zQ rfl #[.string t377] (by rfl) rfl rfl zM ?_
                with_reducible refine (head_lower.calls t377 t383 _ A62.out).mono ?_
                rintro e w85 ⟨rfl, hb⟩;refine ⟨_, rfl, ?_⟩;replace HO_6 := zN (Kd.R_below (zR HO_6) hb);replace HO_364004 := zN (Kd.R_below (zR HO_364004) hb);replace BK353 := zj BK353 hb;replace BK363 := zj BK363 hb;replace HB := zk2 HB GE353 GE363 hb;(try clear hb);(try clear hb2);(try clear hk);(try clear hi);refine hK.out _ _ ⟨(blk_cell BK363.out 0).trans rfl, (blk_cell BK363.out 1).trans rfl, (blk_cell BK363.out 2).trans rfl, (blk_cell BK363.out 3).trans rfl, (blk_cell BK363.out 4).trans rfl⟩ (fun hHeld => ?_);clear hK K;refine norm_ (a' := ?_) ?_ ?_;rotate_left
                · show Act.put _ (some 108) _ = _
                  simp only [zP];rfl
                refine zU (i := 5) (N := some 110) #[true, true, true, true, true, true, false, false, false, false] rfl rfl HT_ ?_;refine one_ (i := 6) (N := some 111) #[true, true, true, true, true, true, true, false, false, false] rfl rfl (one_of HT_.out zQ) (by decide) (fun K hK => ?_);refine value_ (w1 := ?_) (v := ?_) (by rfl) rfl ?_ ?_;rotate_left 2
                · go_simp
                  constructor
                  · rfl
                  rfl
                refine hK.out _ _ ⟨(blk_cell (blk_alloc BK363.out _) 0).trans rfl, (blk_cell (blk_alloc BK363.out _) 1).trans rfl, (blk_cell (blk_alloc BK363.out _) 2).trans rfl, (blk_cell (blk_alloc BK363.out _) 3).trans rfl, (blk_cell (blk_alloc BK363.out _) 4).trans rfl⟩ (fun hHeld => ?_);clear hK K;refine norm_ (a' := ?_) ?_ ?_;rotate_left
                · show Act.put _ (some 111) _ = _
                  simp only [zP];rfl
                refine one_ (i := 7) (N := some 112) #[true, true, true, true, true, true, true, true, false, false] rfl rfl (one_of HT_.out zQ) (by decide) (fun K hK => ?_);refine Kd.R_append_step k84 (w0 := w) w.heap.size (by rfl) (.tmp 106) (.tmp 111) 55 84 (.agg #[(.string ⟨#[]⟩), (.string ⟨#[]⟩)]) 32 rfl Tryz.underlying55 info84 rfl (by decide) zO u364004 x364004_2 (⟨t383, t380⟩ : S84) [.string t383, .string t380] (fun _ => True) (fun _ => False) rfl rfl ?aP (fun _ hk => hk.elim) ?aF ?aO ?aB ?aS ?aL ?_
                (case aP => exact k84_mkM _ _ _ (⟨t383, t380⟩ : S84))
                (case aB => exact (zB2 HB GE353 GE363))
                (case aF => exact (fun _ _ => trivial))
                (case aO => exact (zR HO_364004))
                (case aS => exact (below_size (zB2 HB GE353 GE363)))
                (case aL => have := LMc63.out; omega)
                intro v385 w86 ho hb hg hat
                rw [← Ny384.out] at ho;replace HO_6 := zN (Kd.R_over' (zR HO_6) (Kd.R_typed (zR HO_364004)) (by decide) hg);replace BK353 := zN (blk_grown (g := gb353) (o := .cells #[.string x354000_2, .string x354001_2, .string x354002_2, .string x354003_2, .slice none 0 0] 57 (0, 0)) (zK BK353) hg (Kd.R_ne HO_364004.out BK353.out (by decide)));replace BK363 := zN (blk_grown (g := gb363) (o := .cells #[.string t365, .string t371, .string t372, .string t373, u364004] 57 (0, 0)) (zK BK363) hg (Kd.R_ne HO_364004.out BK363.out (by decide)));replace HB := zN hb;have HO386 := zN ho;clear HO_364004;clear ho hb hg hat
                obtain ⟨Ao87, co87, eo87⟩ := Kd.R_slice HO386.out;(first | subst eo87 | (injection eo87 with f1_ f2_ f3_; have f4_ := f1_.symm; have f5_ := f3_.symm; clear f1_ f2_ f3_; subst f4_; subst f5_));refine hK.out _ _ ⟨(blk_cell BK363.out 0).trans rfl, (blk_cell BK363.out 1).trans rfl, (blk_cell BK363.out 2).trans rfl, (blk_cell BK363.out 3).trans rfl, (blk_cell BK363.out 4).trans rfl⟩ (fun hHeld => ?_);clear hK K;refine norm_ (a' := ?_) ?_ ?_;rotate_left
                · show Act.put _ (some 112) _ = _
                  simp only [zP];rfl
                refine zU (i := 8) (N := some 113) #[true, true, true, true, true, true, true, true, true, false] rfl rfl HT_ ?_;refine last_ (i := 9) (N := none) #[true, true, true, true, true, true, true, true, true, true] rfl rfl (one_of HT_.out zQ) (by decide) (fun K hK => ?_);have hs88 : w86.cell? ⟨gb363, 4, none⟩ = some (u364004) := (blk_cell BK363.out 4).trans rfl;have hfs88 := blk_frozen BK363.out 4;have hns88_0 := NB353_363.out;have hms88_0 := NB363_353.out;refine skip_ (w1 := ?_) (by rfl) rfl ?_ ?_;rotate_left
                · go_simp;rfl
                refine hK.out _ _ ?_;clear hK K;refine done_ (done_of HT_.out zQ) ?_
                try go_wp2_with (first | ((with_reducible refine gate_callee (f := 53) rfl ?_); refine zg (some 115) Tryz.func53 #[.string t377] ?_; (with_reducible refine (head_lower.calls t377 t387 _ A64.out).mono ?_); rintro e w89 ⟨rfl, hb⟩; refine ⟨_, rfl, ?_⟩; replace HO_6 := zN (Kd.R_below (by (with_reducible repeat (first | apply Kd.R_alloc | apply Kd.R_drewN | apply Kd.R_drew)); exact (Kd.R_mono (Kd.R_far (p := ⟨gb363, 4, none⟩) (Kd.R_types HO_6.out BK363.out (by decide)) (fun _ hk => hk.2) (.slice Ao87 y384.length co87)) (fun _ h_ => h_.1))) hb); replace HO386 := zN (Kd.R_below (by (with_reducible repeat (first | apply Kd.R_alloc | apply Kd.R_drewN | apply Kd.R_drew)); exact (Kd.R_mono (Kd.R_far (p := ⟨gb363, 4, none⟩) (Kd.R_types HO386.out BK363.out (by decide)) (fun _ hk => hk.2) (.slice Ao87 y384.length co87)) (fun _ h_ => h_.1))) hb); replace BK353 := zN (blk_below (g := gb353) (o := .cells #[.string x354000_2, .string x354001_2, .string x354002_2, .string x354003_2, .slice none 0 0] 57 (0, 0)) (zF1 BK353 NB353_363) hb); replace BK363 := zN (blk_below (g := gb363) (o := .cells #[.string t365, .string t371, .string t372, .string t373, .slice Ao87 y384.length co87] 57 (0, 0)) (zF BK363) hb); replace HB := zk2 HB GE353 GE363 hb; (try clear hb); (try clear hb2); (try clear hk); (try clear hi)))
                refine wp_goto ?_;refine Or.inr ⟨rfl, ?_⟩;go_step;go_roundg kj52
                case measure => have := HJ26.out; have := HK2.out; have := HJ52.out; omega
                case rel => exact ⟨(x9_2), (wrap64 (x10_2 + 1)), (x11_2), (x354000_2), (x354001_2), (x354002_2), (x354003_2), (y384), (.slice Ao87 y384.length co87), zI, zI, zI, H', ⟨by have := HJ26.out; have := HK2.out; have := HJ52.out; omega⟩, ⟨zR HO_6⟩, ⟨zR HO386⟩, ⟨zK BK353⟩, ⟨zK BK363⟩, ⟨zB2 HB GE353 GE363⟩⟩
              rw [zp c65] at H;have c65b0 := beq_iff_eq.mpr c65;have c65b1 := zc.mpr c65;clear c65;obtain ⟨⟨t388, t389⟩, A66, H⟩ := zA H;(try dsimp only at H);by_cases c67 : t389 = true
              · subst c67;have H1 := H; rw [zp rfl] at H1;clear H;have H := H1;clear H1;have H' := zN H;clear H
                try go_wp2
                replace HO_6 := zN (Kd.R_drew HO_6.out);replace HO_364004 := zN (Kd.R_drew HO_364004.out);replace BK353 := zN (blk_drew BK353.out);replace BK363 := zN (blk_drew BK363.out);replace HB := zN (below_drew1 HB.out);refine start_ (n := 10) (S := fun w' => w'.cell? ⟨gb363, 0, none⟩ = some (.string t365) ∧ w'.cell? ⟨gb363, 1, none⟩ = some (.string t371) ∧ w'.cell? ⟨gb363, 2, none⟩ = some (.string t372) ∧ w'.cell? ⟨gb363, 3, none⟩ = some (.string t373) ∧ w'.cell? ⟨gb363, 4, none⟩ = some (u364004)) (ds := [9]) #[false, false, false, false, false, false, false, false, false, false] zQ rfl rfl ⟨(blk_cell BK363.out 0).trans rfl, (blk_cell BK363.out 1).trans rfl, (blk_cell BK363.out 2).trans rfl, (blk_cell BK363.out 3).trans rfl, (blk_cell BK363.out 4).trans rfl⟩ (fun hHeld => ?_); refine with_tabW head_Parse.tab19 head_Parse.bits19 (fun HT_ HW_ => ?_);generalize wc.drew = w68 at HO_6 HO_364004 BK353 BK363 HB hHeld ⊢;refine zU (i := 0) (N := some 105) #[true, false, false, false, false, false, false, false, false, false] rfl rfl HT_ ?_;refine zU (i := 2) (N := some 107) #[true, false, true, false, false, false, false, false, false, false] rfl rfl HT_ ?_;refine zU (i := 4) (N := some 109) #[true, false, true, false, true, false, false, false, false, false] rfl rfl HT_ ?_;refine take_ (i := 1) (N := some 106) (v := ?_) (a' := ?_) #[true, true, true, false, true, false, false, false, false, false] rfl rfl (take_ofW HT_.out HW_.out zQ) (fun _ _ _ h => h) (Or.inl ⟨by rfl, ?_⟩) hHeld ?_ ?_;rotate_left
                · rintro w' ⟨s0, s1, s2, s3, s4⟩;go_simp
                  with_reducible rfl
                rotate_left
                · simp only [zP];rfl
                refine one_ (i := 3) (N := some 108) #[true, true, true, true, true, false, false, false, false, false] rfl rfl (one_of HT_.out zQ) (by decide) (fun K hK => ?_);refine goes_ Tryz.func53 zQ rfl #[.string t377] (by rfl) rfl rfl zM ?_
                with_reducible refine (head_lower.calls t377 t383 _ A62.out).mono ?_
                rintro e w69 ⟨rfl, hb⟩;refine ⟨_, rfl, ?_⟩;replace HO_6 := zN (Kd.R_below (zR HO_6) hb);replace HO_364004 := zN (Kd.R_below (zR HO_364004) hb);replace BK353 := zj BK353 hb;replace BK363 := zj BK363 hb;replace HB := zk2 HB GE353 GE363 hb;(try clear hb);(try clear hb2);(try clear hk);(try clear hi);refine hK.out _ _ ⟨(blk_cell BK363.out 0).trans rfl, (blk_cell BK363.out 1).trans rfl, (blk_cell BK363.out 2).trans rfl, (blk_cell BK363.out 3).trans rfl, (blk_cell BK363.out 4).trans rfl⟩ (fun hHeld => ?_);clear hK K;refine norm_ (a' := ?_) ?_ ?_;rotate_left
                · show Act.put _ (some 108) _ = _
                  simp only [zP];rfl
                refine zU (i := 5) (N := some 110) #[true, true, true, true, true, true, false, false, false, false] rfl rfl HT_ ?_;refine one_ (i := 6) (N := some 111) #[true, true, true, true, true, true, true, false, false, false] rfl rfl (one_of HT_.out zQ) (by decide) (fun K hK => ?_);refine value_ (w1 := ?_) (v := ?_) (by rfl) rfl ?_ ?_;rotate_left 2
                · go_simp
                  constructor
                  · rfl
                  rfl
                refine hK.out _ _ ⟨(blk_cell (blk_alloc BK363.out _) 0).trans rfl, (blk_cell (blk_alloc BK363.out _) 1).trans rfl, (blk_cell (blk_alloc BK363.out _) 2).trans rfl, (blk_cell (blk_alloc BK363.out _) 3).trans rfl, (blk_cell (blk_alloc BK363.out _) 4).trans rfl⟩ (fun hHeld => ?_);clear hK K;refine norm_ (a' := ?_) ?_ ?_;rotate_left
                · show Act.put _ (some 111) _ = _
                  simp only [zP];rfl
                refine one_ (i := 7) (N := some 112) #[true, true, true, true, true, true, true, true, false, false] rfl rfl (one_of HT_.out zQ) (by decide) (fun K hK => ?_);refine Kd.R_append_step k84 (w0 := w) w.heap.size (by rfl) (.tmp 106) (.tmp 111) 55 84 (.agg #[(.string ⟨#[]⟩), (.string ⟨#[]⟩)]) 32 rfl Tryz.underlying55 info84 rfl (by decide) zO u364004 x364004_2 (⟨t383, t380⟩ : S84) [.string t383, .string t380] (fun _ => True) (fun _ => False) rfl rfl ?aP (fun _ hk => hk.elim) ?aF ?aO ?aB ?aS ?aL ?_
                (case aP => exact k84_mkM _ _ _ (⟨t383, t380⟩ : S84))
                (case aB => exact (zB2 HB GE353 GE363))
                (case aF => exact (fun _ _ => trivial))
                (case aO => exact (zR HO_364004))
                (case aS => exact (below_size (zB2 HB GE353 GE363)))
                (case aL => have := LMc63.out; omega)
                intro v385 w70 ho hb hg hat
                rw [← Ny384.out] at ho;replace HO_6 := zN (Kd.R_over' (zR HO_6) (Kd.R_typed (zR HO_364004)) (by decide) hg);replace BK353 := zN (blk_grown (g := gb353) (o := .cells #[.string x354000_2, .string x354001_2, .string x354002_2, .string x354003_2, .slice none 0 0] 57 (0, 0)) (zK BK353) hg (Kd.R_ne HO_364004.out BK353.out (by decide)));replace BK363 := zN (blk_grown (g := gb363) (o := .cells #[.string t365, .string t371, .string t372, .string t373, u364004] 57 (0, 0)) (zK BK363) hg (Kd.R_ne HO_364004.out BK363.out (by decide)));replace HB := zN hb;have HO386 := zN ho;clear HO_364004;clear ho hb hg hat
                obtain ⟨Ao71, co71, eo71⟩ := Kd.R_slice HO386.out;(first | subst eo71 | (injection eo71 with f1_ f2_ f3_; have f4_ := f1_.symm; have f5_ := f3_.symm; clear f1_ f2_ f3_; subst f4_; subst f5_));refine hK.out _ _ ⟨(blk_cell BK363.out 0).trans rfl, (blk_cell BK363.out 1).trans rfl, (blk_cell BK363.out 2).trans rfl, (blk_cell BK363.out 3).trans rfl, (blk_cell BK363.out 4).trans rfl⟩ (fun hHeld => ?_);clear hK K;refine norm_ (a' := ?_) ?_ ?_;rotate_left
                · show Act.put _ (some 112) _ = _
                  simp only [zP];rfl
                refine zU (i := 8) (N := some 113) #[true, true, true, true, true, true, true, true, true, false] rfl rfl HT_ ?_;refine last_ (i := 9) (N := none) #[true, true, true, true, true, true, true, true, true, true] rfl rfl (one_of HT_.out zQ) (by decide) (fun K hK => ?_);have hs72 : w70.cell? ⟨gb363, 4, none⟩ = some (u364004) := (blk_cell BK363.out 4).trans rfl;have hfs72 := blk_frozen BK363.out 4;have hns72_0 := NB353_363.out;have hms72_0 := NB363_353.out;refine skip_ (w1 := ?_) (by rfl) rfl ?_ ?_;rotate_left
                · go_simp;rfl
                refine hK.out _ _ ?_;clear hK K;refine done_ (done_of HT_.out zQ) ?_
                try go_wp2_with (first | ((with_reducible refine gate_callee (f := 53) rfl ?_); refine zg (some 115) Tryz.func53 #[.string t377] ?_; (with_reducible refine (head_lower.calls t377 t387 _ A64.out).mono ?_); rintro e w73 ⟨rfl, hb⟩; refine ⟨_, rfl, ?_⟩; replace HO_6 := zN (Kd.R_below (by (with_reducible repeat (first | apply Kd.R_alloc | apply Kd.R_drewN | apply Kd.R_drew)); exact (Kd.R_mono (Kd.R_far (p := ⟨gb363, 4, none⟩) (Kd.R_types HO_6.out BK363.out (by decide)) (fun _ hk => hk.2) (.slice Ao71 y384.length co71)) (fun _ h_ => h_.1))) hb); replace HO386 := zN (Kd.R_below (by (with_reducible repeat (first | apply Kd.R_alloc | apply Kd.R_drewN | apply Kd.R_drew)); exact (Kd.R_mono (Kd.R_far (p := ⟨gb363, 4, none⟩) (Kd.R_types HO386.out BK363.out (by decide)) (fun _ hk => hk.2) (.slice Ao71 y384.length co71)) (fun _ h_ => h_.1))) hb); replace BK353 := zN (blk_below (g := gb353) (o := .cells #[.string x354000_2, .string x354001_2, .string x354002_2, .string x354003_2, .slice none 0 0] 57 (0, 0)) (zF1 BK353 NB353_363) hb); replace BK363 := zN (blk_below (g := gb363) (o := .cells #[.string t365, .string t371, .string t372, .string t373, .slice Ao71 y384.length co71] 57 (0, 0)) (zF BK363) hb); replace HB := zk2 HB GE353 GE363 hb; (try clear hb); (try clear hb2); (try clear hk); (try clear hi)) | ((with_reducible refine gate_callee (f := 54) rfl ?_); refine zg (some 121) Tryz.func54 #[.string t380] ?_; (with_reducible refine (head_Host.calls kj52 t380 t388 true _ ?side1 A66.out).mono ?_); (case side1 => exact ML.keep HML.out (zB2 HB GE353 GE363)); rintro e w74 ⟨rfl, hb⟩; refine ⟨_, rfl, ?_⟩; replace HO_6 := zN (Kd.R_below (zR HO_6) hb); replace HO386 := zN (Kd.R_below (zR HO386) hb); replace BK353 := zj BK353 hb; replace BK363 := zj BK363 hb; replace HB := zk2 HB GE353 GE363 hb; (try clear hb); (try clear hb2); (try clear hk); (try clear hi)))
                refine wp_goto ?_;refine Or.inr ⟨rfl, ?_⟩;go_step;go_roundg kj52
                case measure => have := HJ26.out; have := HK2.out; have := HJ52.out; omega
                case rel => exact ⟨(wrap64 (x9_2 + 1)), (wrap64 (x10_2 + 1)), (t388), (x354000_2), (x354001_2), (x354002_2), (x354003_2), (y384), (.slice Ao71 y384.length co71), zI, zI, zI, H', ⟨by have := HJ26.out; have := HK2.out; have := HJ52.out; omega⟩, ⟨zR HO_6⟩, ⟨zR HO386⟩, ⟨zK BK353⟩, ⟨zK BK363⟩, ⟨zB2 HB GE353 GE363⟩⟩
              replace c67 := zq.mpr c67;subst c67;have H1 := H; rw [zn (show ¬ (false = true) by decide)] at H1;clear H;have H := H1;clear H1;simp only [Option.some.injEq, Prod.mk.injEq] at H;obtain ⟨rfl, rfl, rfl, rfl, rfl, rfl, rfl⟩ := H
              try go_wp2
              replace HO_6 := zN (Kd.R_drew HO_6.out);replace HO_364004 := zN (Kd.R_drew HO_364004.out);replace BK353 := zN (blk_drew BK353.out);replace BK363 := zN (blk_drew BK363.out);replace HB := zN (below_drew1 HB.out);refine start_ (n := 10) (S := fun w' => w'.cell? ⟨gb363, 0, none⟩ = some (.string t365) ∧ w'.cell? ⟨gb363, 1, none⟩ = some (.string t371) ∧ w'.cell? ⟨gb363, 2, none⟩ = some (.string t372) ∧ w'.cell? ⟨gb363, 3, none⟩ = some (.string t373) ∧ w'.cell? ⟨gb363, 4, none⟩ = some (u364004)) (ds := [9]) #[false, false, false, false, false, false, false, false, false, false] zQ rfl rfl ⟨(blk_cell BK363.out 0).trans rfl, (blk_cell BK363.out 1).trans rfl, (blk_cell BK363.out 2).trans rfl, (blk_cell BK363.out 3).trans rfl, (blk_cell BK363.out 4).trans rfl⟩ (fun hHeld => ?_); refine with_tabW head_Parse.tab19 head_Parse.bits19 (fun HT_ HW_ => ?_);generalize wc.drew = w75 at HO_6 HO_364004 BK353 BK363 HB hHeld ⊢;refine zU (i := 0) (N := some 105) #[true, false, false, false, false, false, false, false, false, false] rfl rfl HT_ ?_;refine zU (i := 2) (N := some 107) #[true, false, true, false, false, false, false, false, false, false] rfl rfl HT_ ?_;refine zU (i := 4) (N := some 109) #[true, false, true, false, true, false, false, false, false, false] rfl rfl HT_ ?_;refine take_ (i := 1) (N := some 106) (v := ?_) (a' := ?_) #[true, true, true, false, true, false, false, false, false, false] rfl rfl (take_ofW HT_.out HW_.out zQ) (fun _ _ _ h => h) (Or.inl ⟨by rfl, ?_⟩) hHeld ?_ ?_;rotate_left
              · rintro w' ⟨s0, s1, s2, s3, s4⟩;go_simp
                with_reducible rfl
              rotate_left
              · simp only [zP];rfl
              refine one_ (i := 3) (N := some 108) #[true, true, true, true, true, false, false, false, false, false] rfl rfl (one_of HT_.out zQ) (by decide) (fun K hK => ?_);refine goes_ Tryz.func53 zQ rfl #[.string t377] (by rfl) rfl rfl zM ?_
              with_reducible refine (head_lower.calls t377 t383 _ A62.out).mono ?_
              rintro e w76 ⟨rfl, hb⟩;refine ⟨_, rfl, ?_⟩;replace HO_6 := zN (Kd.R_below (zR HO_6) hb);replace HO_364004 := zN (Kd.R_below (zR HO_364004) hb);replace BK353 := zj BK353 hb;replace BK363 := zj BK363 hb;replace HB := zk2 HB GE353 GE363 hb;(try clear hb);(try clear hb2);(try clear hk);(try clear hi);refine hK.out _ _ ⟨(blk_cell BK363.out 0).trans rfl, (blk_cell BK363.out 1).trans rfl, (blk_cell BK363.out 2).trans rfl, (blk_cell BK363.out 3).trans rfl, (blk_cell BK363.out 4).trans rfl⟩ (fun hHeld => ?_);clear hK K;refine norm_ (a' := ?_) ?_ ?_;rotate_left
              · show Act.put _ (some 108) _ = _
                simp only [zP];rfl
              refine zU (i := 5) (N := some 110) #[true, true, true, true, true, true, false, false, false, false] rfl rfl HT_ ?_;refine one_ (i := 6) (N := some 111) #[true, true, true, true, true, true, true, false, false, false] rfl rfl (one_of HT_.out zQ) (by decide) (fun K hK => ?_);refine value_ (w1 := ?_) (v := ?_) (by rfl) rfl ?_ ?_;rotate_left 2
              · go_simp
                constructor
                · rfl
                rfl
              refine hK.out _ _ ⟨(blk_cell (blk_alloc BK363.out _) 0).trans rfl, (blk_cell (blk_alloc BK363.out _) 1).trans rfl, (blk_cell (blk_alloc BK363.out _) 2).trans rfl, (blk_cell (blk_alloc BK363.out _) 3).trans rfl, (blk_cell (blk_alloc BK363.out _) 4).trans rfl⟩ (fun hHeld => ?_);clear hK K;refine norm_ (a' := ?_) ?_ ?_;rotate_left
              · show Act.put _ (some 111) _ = _
                simp only [zP];rfl
              refine one_ (i := 7) (N := some 112) #[true, true, true, true, true, true, true, true, false, false] rfl rfl (one_of HT_.out zQ) (by decide) (fun K hK => ?_);refine Kd.R_append_step k84 (w0 := w) w.heap.size (by rfl) (.tmp 106) (.tmp 111) 55 84 (.agg #[(.string ⟨#[]⟩), (.string ⟨#[]⟩)]) 32 rfl Tryz.underlying55 info84 rfl (by decide) zO u364004 x364004_2 (⟨t383, t380⟩ : S84) [.string t383, .string t380] (fun _ => True) (fun _ => False) rfl rfl ?aP (fun _ hk => hk.elim) ?aF ?aO ?aB ?aS ?aL ?_
              (case aP => exact k84_mkM _ _ _ (⟨t383, t380⟩ : S84))
              (case aB => exact (zB2 HB GE353 GE363))
              (case aF => exact (fun _ _ => trivial))
              (case aO => exact (zR HO_364004))
              (case aS => exact (below_size (zB2 HB GE353 GE363)))
              (case aL => have := LMc63.out; omega)
              intro v385 w77 ho hb hg hat
              rw [← Ny384.out] at ho;replace HO_6 := zN (Kd.R_over' (zR HO_6) (Kd.R_typed (zR HO_364004)) (by decide) hg);replace BK353 := zN (blk_grown (g := gb353) (o := .cells #[.string x354000_2, .string x354001_2, .string x354002_2, .string x354003_2, .slice none 0 0] 57 (0, 0)) (zK BK353) hg (Kd.R_ne HO_364004.out BK353.out (by decide)));replace BK363 := zN (blk_grown (g := gb363) (o := .cells #[.string t365, .string t371, .string t372, .string t373, u364004] 57 (0, 0)) (zK BK363) hg (Kd.R_ne HO_364004.out BK363.out (by decide)));replace HB := zN hb;have HO386 := zN ho;clear HO_364004;clear ho hb hg hat
              obtain ⟨Ao78, co78, eo78⟩ := Kd.R_slice HO386.out;(first | subst eo78 | (injection eo78 with f1_ f2_ f3_; have f4_ := f1_.symm; have f5_ := f3_.symm; clear f1_ f2_ f3_; subst f4_; subst f5_));refine hK.out _ _ ⟨(blk_cell BK363.out 0).trans rfl, (blk_cell BK363.out 1).trans rfl, (blk_cell BK363.out 2).trans rfl, (blk_cell BK363.out 3).trans rfl, (blk_cell BK363.out 4).trans rfl⟩ (fun hHeld => ?_);clear hK K;refine norm_ (a' := ?_) ?_ ?_;rotate_left
              · show Act.put _ (some 112) _ = _
                simp only [zP];rfl
              refine zU (i := 8) (N := some 113) #[true, true, true, true, true, true, true, true, true, false] rfl rfl HT_ ?_;refine last_ (i := 9) (N := none) #[true, true, true, true, true, true, true, true, true, true] rfl rfl (one_of HT_.out zQ) (by decide) (fun K hK => ?_);have hs79 : w77.cell? ⟨gb363, 4, none⟩ = some (u364004) := (blk_cell BK363.out 4).trans rfl;have hfs79 := blk_frozen BK363.out 4;have hns79_0 := NB353_363.out;have hms79_0 := NB363_353.out;refine skip_ (w1 := ?_) (by rfl) rfl ?_ ?_;rotate_left
              · go_simp;rfl
              refine hK.out _ _ ?_;clear hK K;refine done_ (done_of HT_.out zQ) ?_
              try go_wp2_with (first | ((with_reducible refine gate_callee (f := 53) rfl ?_); refine zg (some 115) Tryz.func53 #[.string t377] ?_; (with_reducible refine (head_lower.calls t377 t387 _ A64.out).mono ?_); rintro e w80 ⟨rfl, hb⟩; refine ⟨_, rfl, ?_⟩; replace HO_6 := zN (Kd.R_below (by (with_reducible repeat (first | apply Kd.R_alloc | apply Kd.R_drewN | apply Kd.R_drew)); exact (Kd.R_mono (Kd.R_far (p := ⟨gb363, 4, none⟩) (Kd.R_types HO_6.out BK363.out (by decide)) (fun _ hk => hk.2) (.slice Ao78 y384.length co78)) (fun _ h_ => h_.1))) hb); replace HO386 := zN (Kd.R_below (by (with_reducible repeat (first | apply Kd.R_alloc | apply Kd.R_drewN | apply Kd.R_drew)); exact (Kd.R_mono (Kd.R_far (p := ⟨gb363, 4, none⟩) (Kd.R_types HO386.out BK363.out (by decide)) (fun _ hk => hk.2) (.slice Ao78 y384.length co78)) (fun _ h_ => h_.1))) hb); replace BK353 := zN (blk_below (g := gb353) (o := .cells #[.string x354000_2, .string x354001_2, .string x354002_2, .string x354003_2, .slice none 0 0] 57 (0, 0)) (zF1 BK353 NB353_363) hb); replace BK363 := zN (blk_below (g := gb363) (o := .cells #[.string t365, .string t371, .string t372, .string t373, .slice Ao78 y384.length co78] 57 (0, 0)) (zF BK363) hb); replace HB := zk2 HB GE353 GE363 hb; (try clear hb); (try clear hb2); (try clear hk); (try clear hi)) | ((with_reducible refine gate_callee (f := 54) rfl ?_); refine zg (some 121) Tryz.func54 #[.string t380] ?_; (with_reducible refine (head_Host.calls kj52 t380 t388 false _ ?side1 A66.out).mono ?_); (case side1 => exact ML.keep HML.out (zB2 HB GE353 GE363)); rintro e w81 ⟨rfl, hb⟩; refine ⟨_, rfl, ?_⟩; replace HO_6 := zN (Kd.R_below (zR HO_6) hb); replace HO386 := zN (Kd.R_below (zR HO386) hb); replace BK353 := zj BK353 hb; replace BK363 := zj BK363 hb; replace HB := zk2 HB GE353 GE363 hb; (try clear hb); (try clear hb2); (try clear hk); (try clear hi); have hnb82 := NB353_363.out; have hnc82 := NB363_353.out; obtain ⟨hcz83_0, hcz83_1, hcz83_2, hcz83_3, hcz83_4, hfz83_0, hfz83_1, hfz83_2, hfz83_3, hfz83_4⟩ := zC5 BK353))
              (try ((with_reducible refine wp_goto ?_); refine Or.inl ⟨rfl, ?_⟩; refine hK0.out _ _ ?_; go_wp2));(try simp only [Exit.two_ret, Exit.noGoto_ret]);refine bodyPost_ret (results_ctt rfl _ _ gb353 57 #[.string (⟨#[]⟩ : ByteArray), .string (⟨#[]⟩ : ByteArray), .string (⟨#[]⟩ : ByteArray), .string (⟨#[]⟩ : ByteArray), .slice none 0 0] (0, 0) _ rfl (zF BK353) Tryz.underlying57 rfl zQ) rfl ?_;exact ⟨_, by first | rfl | (simp [errW_none, errW_some] <;> rfl) | (simp only [← hji2]; first | rfl | (simp [errW_none, errW_some] <;> rfl)) | (simp [*, errW_none, errW_some] <;> rfl), by first | exact Kd.R_nil _ _ _ _ _ | exact Kd.N_nil _ _ _ _ _ | exact Kd.V_nil _ _ _ _ _ | exact Kd.Q_nil _ _ _ _ _ | exact Kd.S_nil _ _ _ _ _, zB2 HB GE353 GE363⟩

end Go.Proofs.YtahaihnlkohhgaaGreatDoor.S
end
section
namespace Go.Proofs.YtahaihnlkohhgaaGreatDoor.S
open Go.RowKit Go.Proofs.YtahaihnlkohhgaaGreatDoorW.PrintWords Go.Proofs.YtahaihnlkohhgaaGreatDoorW.PrintLast Go.Proofs.YtahaihnlkohhgaaGreatDoorW.PrintMore
attribute [local go_sem] run_eql_slice_nil
set_option linter.unusedVariables false
set_option linter.unusedSimpArgs false
theorem info39_ : (Tryz.prog.info? 39).map (fun i => (i.zero, i.size, i.bytes)) = some (some (.agg #[(.string ⟨#[]⟩), (.slice none 0 0)]), 2, 40) := by kernel_rfl
def kraw : Kd (ByteArray × (Option Addr × Nat × Nat)) := Kd.pair Kd.string (Kd.scalar (fun x : Option Addr × Nat × Nat => Value.slice x.1 x.2.1 x.2.2) (fun _ => rfl))
set_option maxHeartbeats 2000000 in
set_option maxRecDepth 100000 in
theorem clone_Route (A : Option Addr) (c : Nat) (l : List S64) (w : World) (hr : Kd.C k64 w A l.length l) (hc : l.length ≤ c) (hl : l.length ≤ 2000) :
    Calls Tryz.prog 24 #[.slice A l.length c] w fun e w' => ∃ v, e = .returned v ∧ Kd.R k64 64 w' w.heap.size (fun _ => True) v l ∧ Below w.heap.size w w' := by
  have HB := zN (Below.refl w.heap.size w);have HR := zN hr;have hu := Tryz.underlying25
  rcases A with _ | ad
  · have h0 : l = [] := by
      rcases l with _ | ⟨x, l⟩
      · rfl
      obtain ⟨ad, h, _⟩ := hr.2.2 (by simp);cases h
    subst h0;clear hr HR;go_enter Tryz.func24, Tryz.ntmps24;go_wp2;go_ret;exact ⟨_, rfl, Kd.R_nil _ _ _ _ _, HB.out⟩
  clear hr;go_enter Tryz.func24, Tryz.ntmps24;go_wp2_with (first | ((with_reducible refine gate_dst (N := 5) rfl ?_); refine Kd.R_lit k64 w.heap.size 64 ?hg (N := 5) ?hd (xs := ([] : List S64)) (inner := []) (ok := fun _ => True) (okp := fun _ => True) ?hr ?hp (fun _ hk => hk) trivial HB.out (below_size HB.out) (by simp) ?_; (case hd => rfl); (case hg => rfl); (case hr => first | (go_simp; done) | (go_simp; rfl)); (case hp => exact (Reps.none _ _)); intro v1 w1 ho hb hg_ hnew_; have HO := zN ho; have n0_ := zN hb; clear HB; have HB := n0_; clear ho hb hg_ hnew_ n0_) | ((with_reducible refine gate_dst (N := 7) rfl ?_); refine Kd.R_append_rows k64 (w0 := w) w.heap.size rfl (.tmp 5) (.tmp 6) 25 64 (.agg #[(.string ⟨#[]⟩), (.string ⟨#[]⟩), (.string ⟨#[]⟩)]) 48 rfl Tryz.underlying25 info64 rfl (by decide) zO _ _ l _ _ _ (fun _ => True) (fun _ => False) rfl rfl HO.out (Kd.C_below HR.out HB.out) (fun _ _ h => h) (fun _ h => h.elim) (fun _ _ => trivial) HB.out (below_size HB.out) ?aL ?_; (case aL => simp only [List.length_nil]; omega); intro v2 w2 ho hb hg hat; have HO2 := zN ho; have HB2 := zN hb; clear ho hb hg hat HB HO; have HB := HB2; clear HB2));go_ret;exact ⟨_, rfl, HO2.out, HB.out⟩
set_option maxHeartbeats 2000000 in
set_option maxRecDepth 100000 in
theorem clone_Target (A : Option Addr) (c : Nat) (l : List S41) (w : World) (hr : Kd.C k41 w A l.length l) (hc : l.length ≤ c) (hl : l.length ≤ 2000) :
    Calls Tryz.prog 26 #[.slice A l.length c] w fun e w' => ∃ v, e = .returned v ∧ Kd.R k41 41 w' w.heap.size (fun _ => True) v l ∧ Below w.heap.size w w' := by
  have HB := zN (Below.refl w.heap.size w);have HR := zN hr;have hu := Tryz.underlying37
  rcases A with _ | ad
  · have h0 : l = [] := by
      rcases l with _ | ⟨x, l⟩
      · rfl
      obtain ⟨ad, h, _⟩ := hr.2.2 (by simp);cases h
    subst h0;clear hr HR;go_enter Tryz.func26, Tryz.ntmps26;go_wp2;go_ret;exact ⟨_, rfl, Kd.R_nil _ _ _ _ _, HB.out⟩
  clear hr;go_enter Tryz.func26, Tryz.ntmps26;go_wp2_with (first | ((with_reducible refine gate_dst (N := 5) rfl ?_); refine Kd.R_lit k41 w.heap.size 41 ?hg (N := 5) ?hd (xs := ([] : List S41)) (inner := []) (ok := fun _ => True) (okp := fun _ => True) ?hr ?hp (fun _ hk => hk) trivial HB.out (below_size HB.out) (by simp) ?_; (case hd => rfl); (case hg => rfl); (case hr => first | (go_simp; done) | (go_simp; rfl)); (case hp => exact (Reps.none _ _)); intro v1 w1 ho hb hg_ hnew_; have HO := zN ho; have n0_ := zN hb; clear HB; have HB := n0_; clear ho hb hg_ hnew_ n0_) | ((with_reducible refine gate_dst (N := 7) rfl ?_); refine Kd.R_append_rows k41 (w0 := w) w.heap.size rfl (.tmp 5) (.tmp 6) 37 41 (.agg #[(.string ⟨#[]⟩), (.float .f64 0)]) 24 rfl Tryz.underlying37 info41 rfl (by decide) zO _ _ l _ _ _ (fun _ => True) (fun _ => False) rfl rfl HO.out (Kd.C_below HR.out HB.out) (fun _ _ h => h) (fun _ h => h.elim) (fun _ _ => trivial) HB.out (below_size HB.out) ?aL ?_; (case aL => simp only [List.length_nil]; omega); intro v2 w2 ho hb hg hat; have HO2 := zN ho; have HB2 := zN hb; clear ho hb hg hat HB HO; have HB := HB2; clear HB2));go_ret;exact ⟨_, rfl, HO2.out, HB.out⟩
set_option maxHeartbeats 2000000 in
set_option maxRecDepth 100000 in
theorem clone_Pool (A : Option Addr) (c : Nat) (l : List (ByteArray × (Option Addr × Nat × Nat))) (w : World) (hr : Kd.C kraw w A l.length l) (hc : l.length ≤ c) (hl : l.length ≤ 2000) :
    Calls Tryz.prog 25 #[.slice A l.length c] w fun e w' => ∃ v, e = .returned v ∧ Kd.R kraw 39 w' w.heap.size (fun _ => True) v l ∧ Below w.heap.size w w' := by
  have HB := zN (Below.refl w.heap.size w);have HR := zN hr;have hu := Tryz.underlying26
  rcases A with _ | ad
  · have h0 : l = [] := by
      rcases l with _ | ⟨x, l⟩
      · rfl
      obtain ⟨ad, h, _⟩ := hr.2.2 (by simp);cases h
    subst h0;clear hr HR;go_enter Tryz.func25, Tryz.ntmps25;go_wp2;go_ret;exact ⟨_, rfl, Kd.R_nil _ _ _ _ _, HB.out⟩
  clear hr;go_enter Tryz.func25, Tryz.ntmps25;go_wp2_with (first | ((with_reducible refine gate_dst (N := 5) rfl ?_); refine Kd.R_lit kraw w.heap.size 39 ?hg (N := 5) ?hd (xs := ([] : List (ByteArray × (Option Addr × Nat × Nat)))) (inner := []) (ok := fun _ => True) (okp := fun _ => True) ?hr ?hp (fun _ hk => hk) trivial HB.out (below_size HB.out) (by simp) ?_; (case hd => rfl); (case hg => rfl); (case hr => first | (go_simp; done) | (go_simp; rfl)); (case hp => exact (Reps.none _ _)); intro v1 w1 ho hb hg_ hnew_; have HO := zN ho; have n0_ := zN hb; clear HB; have HB := n0_; clear ho hb hg_ hnew_ n0_) | ((with_reducible refine gate_dst (N := 7) rfl ?_); refine Kd.R_append_rows kraw (w0 := w) w.heap.size rfl (.tmp 5) (.tmp 6) 26 39 (.agg #[(.string ⟨#[]⟩), (.slice none 0 0)]) 40 rfl Tryz.underlying26 info39_ rfl (by decide) zO _ _ l _ _ _ (fun _ => True) (fun _ => False) rfl rfl HO.out (Kd.C_below HR.out HB.out) (fun _ _ h => h) (fun _ h => h.elim) (fun _ _ => trivial) HB.out (below_size HB.out) ?aL ?_; (case aL => simp only [List.length_nil]; omega); intro v2 w2 ho hb hg hat; have HO2 := zN ho; have HB2 := zN hb; clear ho hb hg hat HB HO; have HB := HB2; clear HB2));go_ret;exact ⟨_, rfl, HO2.out, HB.out⟩
end Go.Proofs.YtahaihnlkohhgaaGreatDoor.S
end
section
namespace Go.Proofs.YtahaihnlkohhgaaGreatDoor.S
open Go.RowKit Go.Proofs.YtahaihnlkohhgaaGreatDoorW.PrintWords Go.Proofs.YtahaihnlkohhgaaGreatDoorW.PrintLast Go.Proofs.YtahaihnlkohhgaaGreatDoorW.PrintMore
set_option linter.unusedVariables false
set_option linter.unusedSimpArgs false
def PlaneAt (W : World) (g : Nat) (f0 : Int) (f1 : List S64) (f2 : List S39) : Prop :=
  ∃ A1 c1 A2 c2, W.heap[g]? = some (.cells #[.int .i64 f0, .slice A1 f1.length c1, .slice A2 f2.length c2] 52 (0, 0)) ∧ Kd.C k64 W A1 f1.length f1 ∧ f1.length ≤ c1 ∧ Kd.C k39 W A2 f2.length f2 ∧ f2.length ≤ c2
theorem PlaneAt.below {W W1 : World} {g : Nat} {f0 : Int} {f1 : List S64} {f2 : List S39} (h : PlaneAt W g f0 f1 f2) (hb : Below W.heap.size W W1) : PlaneAt W1 g f0 f1 f2 := by
  obtain ⟨A1, c1, A2, c2, h0, h1, h2, h3, h4⟩ := h;exact ⟨A1, c1, A2, c2, blk_below h0 hb, Kd.C_below h1 hb, h2, Kd.C_below h3 hb, h4⟩
set_option maxHeartbeats 2000000 in
theorem new_ok (w : World) : Calls Tryz.prog 4 #[] w fun e w' => ∃ g, e = .returned (.pointer (some ⟨g, 0, none⟩)) ∧ w.heap.size ≤ g ∧ PlaneAt w' g 0 [] [] ∧ Below w.heap.size w w' :=
  (plane_New.calls 0 [] [] w w (Below.refl _ _) rfl).mono fun e w' h => by
    obtain ⟨g, h1, ⟨A1, c1, A2, c2, hb, hg, hr1, hr2⟩, h3, h4⟩ := h;exact ⟨g, h1, hg, ⟨A1, c1, A2, c2, hb, Kd.C_below hr1 h3, Nat.zero_le _, Kd.C_below hr2 h3, Nat.zero_le _⟩, h3⟩
set_option maxHeartbeats 2000000 in
set_option maxRecDepth 100000 in
theorem version_ok {g : Nat} {f0 : Int} {f1 : List S64} {f2 : List S39} {w : World} (h : PlaneAt w g f0 f1 f2) :
    Calls Tryz.prog 10 #[.pointer (some ⟨g, 0, none⟩)] w fun e w' => e = .returned (.int .i64 f0) ∧ Below w.heap.size w w' := by
  obtain ⟨A1, c1, A2, c2, h0, h1, h2, h3, h4⟩ := h;have q0 := cellS52_0 h0;have hu97 := Tryz.underlying52;have hu55 := Tryz.underlying28;clear h1 h3;go_enter Tryz.func10, Tryz.ntmps10;go_wp2;go_ret;exact ⟨rfl, Below.refl _ _⟩
set_option maxHeartbeats 2000000 in
set_option maxRecDepth 100000 in
theorem apply_stale {g : Nat} {f0 : Int} {f1 : List S64} {f2 : List S39} {w : World} (h : PlaneAt w g f0 f1 f2) (a : Int) (v1 v2 : Value) (hv1 : v1.oneCell' = true) (hv2 : v2.oneCell' = true) (ha : a ≤ f0) :
    Calls Tryz.prog 7 #[.pointer (some ⟨g, 0, none⟩), .agg #[.int .i64 a, v1, v2]] w fun e w' => e = .returned (.int .i64 12) ∧ Below w.heap.size w w' := by
  obtain ⟨A1, c1, A2, c2, h0, h1, h2, h3, h4⟩ := h;have HB := zN (Below.refl w.heap.size w);have H0 := zN h0;have hu97 := Tryz.underlying52;have hu55 := Tryz.underlying28;clear h0 h1 h3;go_enter Tryz.func7, Tryz.ntmps7;go_wp2_with (first | ((with_reducible refine gate_dst (N := 3) rfl ?_); refine zX #[.int .i64 a, v1, v2] 28 rfl ?_; intro gb hg w1 hbox hb; have n0_ := zN (below_step HB.out hb); have q0 := cellS52_0 (blk_below H0.out hb); have c0 : w1.cell? ⟨gb, 0, none⟩ = some (.int .i64 a) := (blk_cell hbox 0).trans rfl; clear HB; have HB := n0_; clear hb hbox hg n0_));go_still (by rfl);go_wp2;go_ret;exact ⟨rfl, below_drew1 HB.out⟩
def RawOf (w : World) (x : S39) (y : ByteArray × (Option Addr × Nat × Nat)) : Prop :=
  y.1 = x.f0 ∧ y.2.2.1 = x.f1.length ∧ x.f1.length ≤ y.2.2.2 ∧ Kd.C k41 w y.2.1 x.f1.length x.f1
theorem RawOf.below {w w1 : World} {x : S39} {y : ByteArray × (Option Addr × Nat × Nat)} (h : RawOf w x y) (hb : Below w.heap.size w w1) : RawOf w1 x y := ⟨h.1, h.2.1, h.2.2.1, Kd.C_below h.2.2.2 hb⟩
theorem raw_one {w : World} {x : S39} {c : List Value} (h : k39.K w x c) : ∃ y, kraw.K w y c ∧ RawOf w x y := by
  obtain ⟨c1, c2, rfl, rfl, A, cap, rfl, hl, hr⟩ := h;exact ⟨(x.f0, (A, x.f1.length, cap)), ⟨_, _, rfl, rfl, rfl⟩, rfl, rfl, hl, hr⟩
theorem raw_back {w : World} {x : S39} {y : ByteArray × (Option Addr × Nat × Nat)} {c : List Value} (h : kraw.K w y c) (hr : RawOf w x y) : k39.K w x c := by
  obtain ⟨c1, c2, rfl, rfl, rfl⟩ := h;obtain ⟨h1, h2, h3, h4⟩ := hr;refine ⟨_, _, rfl, ?_, y.2.1, y.2.2.2, ?_, h3, h4⟩
  · rw [h1]; rfl
  show [Value.slice y.2.1 y.2.2.1 y.2.2.2] = [Value.slice y.2.1 x.f1.length y.2.2.2]
  rw [h2]
theorem raw_of {w : World} {A : Option Addr} {l : List S39} (h : Kd.C k39 w A l.length l) :
    ∃ rl : List (ByteArray × (Option Addr × Nat × Nat)), rl.length = l.length ∧ Kd.C kraw w A rl.length rl ∧ ∀ (j : Nat) (x : S39) (y : ByteArray × (Option Addr × Nat × Nat)), l[j]? = some x → rl[j]? = some y → RawOf w x y := by
  obtain ⟨hl, hm, hr⟩ := h
  rcases Nat.eq_zero_or_pos l.length with h0 | h0
  · have : l = [] := List.length_eq_zero_iff.1 h0;subst this;exact ⟨[], rfl, ⟨rfl, by simp, fun h => absurd h (Nat.lt_irrefl 0)⟩, fun j x y hx _ => by simp at hx⟩
  obtain ⟨ad, hA, hc⟩ := hr h0;have H : ∀ i : Fin l.length, ∃ y, ∃ c : List Value, c.length = 2 ∧ kraw.K w y c ∧ RawOf w l[i] y ∧ ∀ k u, c[k]? = some u → w.cell? (ad.add (i.1 * 2 + k)) = some u := by
    intro i;obtain ⟨c, h1, h2, h3⟩ := hc i.1 l[i] (zr i.2);obtain ⟨y, h4, h5⟩ := raw_one h2;exact ⟨y, c, h1, h4, h5, h3⟩
  obtain ⟨f, hf⟩ := Classical.axiomOfChoice H;refine ⟨List.ofFn f, List.length_ofFn, ⟨rfl, by rw [List.length_ofFn]; exact hm, fun _ => ⟨ad, hA, fun j p hp => ?_⟩⟩, fun j x y hx hy => ?_⟩
  · have hj : j < (List.ofFn f).length := (List.getElem?_eq_some_iff.1 hp).1;have hj2 : j < l.length := by rwa [List.length_ofFn] at hj
    rw [zr hj, List.getElem_ofFn] at hp;obtain rfl := zo hp;obtain ⟨c, h1, h2, h3, h4⟩ := hf ⟨j, hj2⟩;exact ⟨c, h1, h2, h4⟩
  have hj : j < (List.ofFn f).length := (List.getElem?_eq_some_iff.1 hy).1;have hj2 : j < l.length := by rwa [List.length_ofFn] at hj
  rw [zr hj, List.getElem_ofFn] at hy;rw [zr hj2] at hx;obtain rfl := zo hy;obtain rfl := zo hx;obtain ⟨c, h1, h2, h3, h4⟩ := hf ⟨j, hj2⟩;exact h3
theorem raw_row {w : World} {A : Option Addr} {l : List S39} {rl : List (ByteArray × (Option Addr × Nat × Nat))} (hl : rl.length = l.length) (h : Kd.C kraw w A rl.length rl) (hR : ∀ (j : Nat) (x : S39) (y : ByteArray × (Option Addr × Nat × Nat)), l[j]? = some x → rl[j]? = some y → RawOf w x y) : Kd.C k39 w A l.length l := by
  obtain ⟨h1, h2, h3⟩ := h;refine ⟨rfl, zO, fun h0 => ?_⟩;obtain ⟨ad, hA, hc⟩ := h3 zO;refine ⟨ad, hA, fun j x hx => ?_⟩;have hj : j < rl.length := by have := (List.getElem?_eq_some_iff.1 hx).1; omega
  obtain ⟨c, g1, g2, g3⟩ := hc j rl[j] (zr hj);exact ⟨c, g1, raw_back g2 (hR j x _ hx (zr hj)), g3⟩
def RawBlk (w : World) (g : Nat) (rl : List (ByteArray × (Option Addr × Nat × Nat))) : Prop :=
  ∃ cur : Array Value, w.heap[g]? = some (.cells cur 39 (0, 0)) ∧ ∀ (j : Nat) (y : ByteArray × (Option Addr × Nat × Nat)), rl[j]? = some y → cur[j * 2]? = some (.string y.1) ∧ cur[j * 2 + 1]? = some (.slice y.2.1 y.2.2.1 y.2.2.2)
theorem rawblk_of {w : World} {base : Nat} {v : Value} {rl : List (ByteArray × (Option Addr × Nat × Nat))} (h : Kd.R kraw 39 w base (fun _ => True) v rl) : rl = [] ∨ ∃ g cap, v = .slice (some ⟨g, 0, none⟩) rl.length cap ∧ base ≤ g ∧ RawBlk w g rl := by
  obtain ⟨_, inner, ⟨hlen, ho⟩, hrep⟩ := h
  rcases ho with ⟨rfl, h0⟩ | ⟨g, cap, cur, rfl, hg, hb, hn, hm, hs, ht⟩
  · exact .inl (List.length_eq_zero_iff.1 h0)
  refine .inr ⟨g, cap, rfl, hg, cur, hb, fun j y hj => ?_⟩;have hjl : j < rl.length := (List.getElem?_eq_some_iff.1 hj).1;obtain ⟨c0, c1, hc, h1, h2⟩ := hrep.2 j y hj
  change (inner.drop (j * 2)).take 2 = c0 ++ c1 at hc
  change cur.toList.take (rl.length * 2) = inner at ht
  have e : ∀ k, k < 2 → cur[j * 2 + k]? = ((inner.drop (j * 2)).take 2)[k]? := by
    intro k hk;rw [List.getElem?_take_of_lt hk, List.getElem?_drop, ← ht, List.getElem?_take_of_lt zO];simp
  have e0 := e 0 zO;have e1 := e 1 zO
  change c0 = [.string y.1] at h1
  change c1 = [.slice y.2.1 y.2.2.1 y.2.2.2] at h2
  rw [hc, h1, h2] at e0 e1;exact ⟨e0, e1⟩
theorem RawBlk.cell {w : World} {g : Nat} {rl : List (ByteArray × (Option Addr × Nat × Nat))} (h : RawBlk w g rl) {j : Nat} {y : ByteArray × (Option Addr × Nat × Nat)} (hj : rl[j]? = some y) :
    w.cell? ⟨g, j * 2 + 1, none⟩ = some (.slice y.2.1 y.2.2.1 y.2.2.2) ∧ w.frozen? ⟨g, j * 2 + 1, none⟩ = false := by
  obtain ⟨cur, hb, hc⟩ := h;exact ⟨(blk_cell hb _).trans (hc j y hj).2, blk_frozen hb _⟩
theorem RawBlk.keep {w w1 : World} {g : Nat} {rl : List (ByteArray × (Option Addr × Nat × Nat))} (h : RawBlk w g rl) (he : w1.heap[g]? = w.heap[g]?) : RawBlk w1 g rl := by
  obtain ⟨cur, hb, hc⟩ := h;exact ⟨cur, he.trans hb, hc⟩
theorem RawBlk.below {w w1 : World} {g : Nat} {rl : List (ByteArray × (Option Addr × Nat × Nat))} (h : RawBlk w g rl) (hb : Below w.heap.size w w1) : RawBlk w1 g rl := by
  obtain ⟨cur, hb0, hc⟩ := h;exact ⟨cur, blk_below hb0 hb, hc⟩
theorem RawBlk.set {w : World} {g : Nat} {rl : List (ByteArray × (Option Addr × Nat × Nat))} (h : RawBlk w g rl) (i : Nat) {y : ByteArray × (Option Addr × Nat × Nat)} (hi : rl[i]? = some y) (A : Option Addr) (n c : Nat) :
    RawBlk (w.setCell ⟨g, i * 2 + 1, none⟩ (.slice A n c)) g (rl.set i (y.1, (A, n, c))) := by
  obtain ⟨cur, hb, hc⟩ := h;refine ⟨_, blk_set hb _ _, fun j z hj => ?_⟩;have hil : i < rl.length := (List.getElem?_eq_some_iff.1 hi).1;have hin : i * 2 + 1 < cur.size := by
    have := (hc i y hi).2;exact (Array.getElem?_eq_some_iff.1 this).1
  rw [List.getElem?_set] at hj;by_cases hij : i = j
  · subst hij;rw [zp rfl, zp hil] at hj;obtain rfl := zo hj;refine ⟨?_, ?_⟩
    · rw [Array.getElem?_setIfInBounds_ne zO];exact (hc i y hi).1
    rw [Array.getElem?_setIfInBounds_self_of_lt hin]
  rw [zn hij] at hj;rw [Array.getElem?_setIfInBounds_ne zO, Array.getElem?_setIfInBounds_ne zO];exact hc j z hj
theorem RawBlk.row {w : World} {g : Nat} {rl : List (ByteArray × (Option Addr × Nat × Nat))} (h : RawBlk w g rl) (hm : rl.length ≤ 9223372036854775807) : Kd.C kraw w (some ⟨g, 0, none⟩) rl.length rl := by
  obtain ⟨cur, hb, hc⟩ := h;refine ⟨rfl, hm, fun _ => ⟨⟨g, 0, none⟩, rfl, fun j y hj => ⟨[.string y.1, .slice y.2.1 y.2.2.1 y.2.2.2], rfl, ⟨[.string y.1], [.slice y.2.1 y.2.2.1 y.2.2.2], rfl, rfl, rfl⟩, fun k u hk => ?_⟩⟩⟩
  change w.cell? (Addr.add ⟨g, 0, none⟩ (j * 2 + k)) = some u
  rw [add_plain, blk_cell hb];obtain ⟨h1, h2⟩ := hc j y hj
  rcases k with _ | _ | k
  · exact h1.trans (by simpa using hk)
  · exact h2.trans (by simpa using hk)
  simp at hk
def RawOwn (w : World) (base : Nat) (x : S39) (y : ByteArray × (Option Addr × Nat × Nat)) : Prop :=
  y.1 = x.f0 ∧ y.2.2.1 = x.f1.length ∧ x.f1.length ≤ y.2.2.2 ∧ Kd.R k41 41 w base (fun _ => True) (.slice y.2.1 x.f1.length y.2.2.2) x.f1
theorem RawOwn.below {w w1 : World} {base : Nat} {x : S39} {y : ByteArray × (Option Addr × Nat × Nat)} (h : RawOwn w base x y) (hb : Below w.heap.size w w1) : RawOwn w1 base x y := ⟨h.1, h.2.1, h.2.2.1, Kd.R_below h.2.2.2 hb⟩
theorem RawOwn.set {w : World} {base : Nat} {x : S39} {y : ByteArray × (Option Addr × Nat × Nat)} (h : RawOwn w base x y) {g : Nat} {rl : List (ByteArray × (Option Addr × Nat × Nat))} (hb : RawBlk w g rl) (j : Nat) (u : Value) : RawOwn (w.setCell ⟨g, j, none⟩ u) base x y := by
  obtain ⟨cur, hb0, _⟩ := hb;exact ⟨h.1, h.2.1, h.2.2.1, Kd.R_set h.2.2.2 hb0 (by decide) j u⟩
theorem RawOwn.of {w : World} {base : Nat} {x : S39} {y : ByteArray × (Option Addr × Nat × Nat)} (h : RawOwn w base x y) : RawOf w x y := by
  obtain ⟨h1, h2, h3, h4⟩ := h;obtain ⟨A, c, he, hl, hr⟩ := Kd.R_reads h4;injection he with e1 e2 e3
  exact ⟨h1, h2, h3, by rw [e1]; exact hr⟩
theorem RawOwn.setT {w : World} {base : Nat} {x : S39} {y : ByteArray × (Option Addr × Nat × Nat)} (h : RawOwn w base x y) {g t : Nat} {cells : Array Value} (hb : w.heap[g]? = some (.cells cells t (0, 0))) (ht : ∀ q, q ∈ 41 :: k41.E → q ≠ t) (j : Nat) (u : Value) : RawOwn (w.setCell ⟨g, j, none⟩ u) base x y :=
  ⟨h.1, h.2.1, h.2.2.1, Kd.R_set h.2.2.2 hb ht j u⟩
theorem RawBlk.far {w : World} {g : Nat} {rl : List (ByteArray × (Option Addr × Nat × Nat))} (h : RawBlk w g rl) {q : Nat} (hne : g ≠ q) (j : Nat) (u : Value) : RawBlk (w.setCell ⟨q, j, none⟩ u) g rl := h.keep (Below.heap_setCell w ⟨q, j, none⟩ u g hne)
def PoolsOwn (w : World) (base : Nat) (A : Option Addr) (c : Nat) (l : List S39) : Prop :=
  l.length ≤ c ∧ l.length ≤ 9223372036854775807 ∧ (l = [] ∨ ∃ (bg : Nat) (rl : List (ByteArray × (Option Addr × Nat × Nat))), A = some ⟨bg, 0, none⟩ ∧ base ≤ bg ∧ rl.length = l.length ∧ RawBlk w bg rl ∧ ∀ (j : Nat) (x : S39) (y : (ByteArray × (Option Addr × Nat × Nat))), l[j]? = some x → rl[j]? = some y → RawOwn w base x y)
theorem PoolsOwn.C {w : World} {base : Nat} {A : Option Addr} {c : Nat} {l : List S39} (h : PoolsOwn w base A c l) : Kd.C k39 w A l.length l := by
  obtain ⟨_, hm, rfl | ⟨bg, rl, rfl, _, hl, hb, ho⟩⟩ := h
  · exact ⟨rfl, by simp, fun h => absurd h (Nat.lt_irrefl 0)⟩
  exact raw_row hl (hb.row zO) (fun j x y hx hy => (ho j x y hx hy).of)
theorem PoolsOwn.below {w w1 : World} {base : Nat} {A : Option Addr} {c : Nat} {l : List S39} (h : PoolsOwn w base A c l) (hw : Below w.heap.size w w1) : PoolsOwn w1 base A c l := by
  obtain ⟨h1, h2, h3 | ⟨bg, rl, h4, h5, h6, h7, h8⟩⟩ := h
  · exact ⟨h1, h2, .inl h3⟩
  exact ⟨h1, h2, .inr ⟨bg, rl, h4, h5, h6, h7.below hw, fun j x y hx hy => (h8 j x y hx hy).below hw⟩⟩
theorem PoolsOwn.setT {w : World} {base : Nat} {A : Option Addr} {c : Nat} {l : List S39} (h : PoolsOwn w base A c l) {g t : Nat} {cells : Array Value} (hb : w.heap[g]? = some (.cells cells t (0, 0))) (ht : ∀ q, q ∈ 41 :: k41.E → q ≠ t) (ht2 : 39 ≠ t) (j : Nat) (u : Value) : PoolsOwn (w.setCell ⟨g, j, none⟩ u) base A c l := by
  obtain ⟨h1, h2, h3 | ⟨bg, rl, h4, h5, h6, h7, h8⟩⟩ := h
  · exact ⟨h1, h2, .inl h3⟩
  have hne : bg ≠ g := by
    obtain ⟨cur, hc, _⟩ := h7;exact blk_ne hc hb ht2
  exact ⟨h1, h2, .inr ⟨bg, rl, h4, h5, h6, h7.far hne j u, fun j' x y hx hy => (h8 j' x y hx hy).setT hb ht j u⟩⟩
theorem PoolsOwn.lower {w : World} {base base' : Nat} {A : Option Addr} {c : Nat} {l : List S39} (h : PoolsOwn w base A c l) (hb : base' ≤ base) : PoolsOwn w base' A c l := by
  obtain ⟨h1, h2, h3 | ⟨bg, rl, h4, h5, h6, h7, h8⟩⟩ := h
  · exact ⟨h1, h2, .inl h3⟩
  exact ⟨h1, h2, .inr ⟨bg, rl, h4, Nat.le_trans hb h5, h6, h7, fun j x y hx hy => ⟨(h8 j x y hx hy).1, (h8 j x y hx hy).2.1, (h8 j x y hx hy).2.2.1, Kd.R_lower (h8 j x y hx hy).2.2.2 hb⟩⟩⟩
end Go.Proofs.YtahaihnlkohhgaaGreatDoor.S
end
