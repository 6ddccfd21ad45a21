/- Walks and plain facts, joined out of several texts: what the row of TopGate leads to. -/
import Derived.Test.YtpigfccpogmeaaaGreatDoorPkTopGate4
section
namespace Go.Proofs.YtpigfccpogmeaaaGreatDoor.S
open Go.RowKit Go.Proofs.YtpigfccpogmeaaaGreatDoorW.PrintWords Go.Proofs.YtpigfccpogmeaaaGreatDoorW.PrintLast Go.Proofs.YtpigfccpogmeaaaGreatDoorW.PrintMore
attribute [local go_sem] max2_int min2_int max_two min_two max_three min_three max_four min_four
attribute [local go_sem] fbin_eql fbin_neq fbin_lss fbin_leq fbin_gtr fbin_geq frun_add frun_sub frun_mul frun_quo frun_store fun_neg fcv_int fcv_same fb88 fb89
set_option linter.unusedVariables false
set_option linter.unusedSimpArgs false
mutual
def head_Parse.j0 : Nat → Int → List ByteArray → Int → Int → ByteArray → ByteArray → Bool → ByteArray → ByteArray → ByteArray → ByteArray → Option (ByteArray × ByteArray × ByteArray × ByteArray × (List (S88)) × Int × Int)
  | 0, _, _, _, _, _, _, _, _, _, _, _ => none
  | k + 1, x5, x6, x9, x10, x11, x12, x75, x398000, x398001, x398002, x398003 => if x75 = true then (some ((⟨#[]⟩ : ByteArray), (⟨#[]⟩ : ByteArray), (⟨#[]⟩ : ByteArray), (⟨#[]⟩ : ByteArray), ([] : List (S88)), 0, 4)) else (head_Parse.l0 k x5 x6 x9 x10 x11 x12 x398001 x398002 x398003 ([] : List (S88)))
def head_Parse.l0 : Nat → Int → List ByteArray → Int → Int → ByteArray → ByteArray → ByteArray → ByteArray → ByteArray → List (S88) → Option (ByteArray × ByteArray × ByteArray × ByteArray × (List (S88)) × Int × Int)
  | 0, _, _, _, _, _, _, _, _, _, _ => none
  | k + 1, x5, x6, x9, x10, x11, x398000, x398001, x398002, x398003, x398004 => if x10 < (x6.length : Int) then (if 0 ≤ x10 then ((strings_Cut.f (rdOf ByteArray.empty x6 x10) (⟨#[58]⟩ : ByteArray)).bind fun bt411 => ((strings_Trim.f bt411.2.1 (⟨#[9, 32]⟩ : ByteArray)).bind fun t414 => (if bt411.2.2 = true then ((head_token.f k bt411.1).bind fun t415 => (if t415 = true then ((head_value.f k t414).bind fun t416 => (head_Parse.j2 k x5 x6 x9 x10 x11 bt411.1 t414 (!t416) x398000 x398001 x398002 x398003 x398004)) else (head_Parse.j2 k x5 x6 x9 x10 x11 bt411.1 t414 true x398000 x398001 x398002 x398003 x398004))) else (head_Parse.j2 k x5 x6 x9 x10 x11 bt411.1 t414 true x398000 x398001 x398002 x398003 x398004)))) else (none)) else (if x9 = 1 then (if (x398004.length : Int) > 32 then (some ((⟨#[]⟩ : ByteArray), (⟨#[]⟩ : ByteArray), (⟨#[]⟩ : ByteArray), (⟨#[]⟩ : ByteArray), ([] : List (S88)), 0, 6)) else (if x398003.toList = ([] : List UInt8) then (some (x398000, x398001, x398002, x11, x398004, wrap64 (x5 + 4), 0)) else (some (x398000, x398001, x398002, x398003, x398004, wrap64 (x5 + 4), 0)))) else (some ((⟨#[]⟩ : ByteArray), (⟨#[]⟩ : ByteArray), (⟨#[]⟩ : ByteArray), (⟨#[]⟩ : ByteArray), ([] : List (S88)), 0, 4)))
def head_Parse.j2 : Nat → Int → List ByteArray → Int → Int → ByteArray → ByteArray → ByteArray → Bool → ByteArray → ByteArray → ByteArray → ByteArray → List (S88) → Option (ByteArray × ByteArray × ByteArray × ByteArray × (List (S88)) × Int × Int)
  | 0, _, _, _, _, _, _, _, _, _, _, _, _, _ => none
  | k + 1, x5, x6, x9, x10, x11, x18, x19, x104, x398000, x398001, x398002, x398003, x398004 => if x104 = true then (some ((⟨#[]⟩ : ByteArray), (⟨#[]⟩ : ByteArray), (⟨#[]⟩ : ByteArray), (⟨#[]⟩ : ByteArray), ([] : List (S88)), 0, 4)) else ((head_lower.f x18).bind fun t417 => (if x398004.length < 4398046511104 then ((some (x398004 ++ [(⟨t417, x19⟩ : S88)] : List (S88))).bind fun y418 => ((head_lower.f x18).bind fun t421 => (if t421.toList = ([104, 111, 115, 116] : List UInt8) then ((head_Host.f k x19).bind fun bt422 => (if bt422.2 = true then (head_Parse.l0 k x5 x6 (wrap64 (x9 + 1)) (wrap64 (x10 + 1)) bt422.1 x398000 x398001 x398002 x398003 y418) else (some ((⟨#[]⟩ : ByteArray), (⟨#[]⟩ : ByteArray), (⟨#[]⟩ : ByteArray), (⟨#[]⟩ : ByteArray), ([] : List (S88)), 0, 4)))) else (head_Parse.l0 k x5 x6 x9 (wrap64 (x10 + 1)) x11 x398000 x398001 x398002 x398003 y418)))) else (none)))
end
def head_Parse.f (k : Nat) (l0 : List Int) : Option (ByteArray × ByteArray × ByteArray × ByteArray × (List (S88)) × Int × Int) := if 0 ≤ (mn (l0.length : Int) 2048) then (if (mn (l0.length : Int) 2048) ≤ (l0.length : Int) then ((bytes_Index.f (l0.take ((mn (l0.length : Int) 2048) : Int).toNat) (([13, 10, 13, 10] : List Int))).bind fun t392 => (if t392 < 0 then (if (l0.length : Int) < 2048 then (some ((⟨#[]⟩ : ByteArray), (⟨#[]⟩ : ByteArray), (⟨#[]⟩ : ByteArray), (⟨#[]⟩ : ByteArray), ([] : List (S88)), 0, 3)) else (some ((⟨#[]⟩ : ByteArray), (⟨#[]⟩ : ByteArray), (⟨#[]⟩ : ByteArray), (⟨#[]⟩ : ByteArray), ([] : List (S88)), 0, 6))) else (if 0 ≤ t392 then (if t392 ≤ (l0.length : Int) then ((strings_Split.f (strOfNums (l0.take (t392 : Int).toNat)) (⟨#[13, 10]⟩ : ByteArray)).bind fun t394 => (if 0 < (t394.length : Int) then ((strings_Cut.f (rdOf ByteArray.empty t394 0) (⟨#[32]⟩ : ByteArray)).bind fun bt399 => ((strings_Cut.f bt399.2.1 (⟨#[32]⟩ : ByteArray)).bind fun bt402 => ((head_target.f k bt402.1).bind fun bt405 => (if bt405.2.2.2 = true then ((head_token.f k bt399.1).bind fun t409 => (if t409 = true then (head_Parse.j0 k t392 t394 0 1 (⟨#[]⟩ : ByteArray) bt399.1 (bt402.2.1.toList != ([72, 84, 84, 80, 47, 49, 46, 49] : List UInt8)) (⟨#[]⟩ : ByteArray) bt405.1 bt405.2.1 bt405.2.2.1) else (head_Parse.j0 k t392 t394 0 1 (⟨#[]⟩ : ByteArray) bt399.1 true (⟨#[]⟩ : ByteArray) bt405.1 bt405.2.1 bt405.2.2.1))) else (head_Parse.j0 k t392 t394 0 1 (⟨#[]⟩ : ByteArray) bt399.1 true (⟨#[]⟩ : ByteArray) bt405.1 bt405.2.1 bt405.2.2.1))))) else (none))) else (none)) else (none)))) else (none)) else (none)
theorem head_Parse.mono_l : ∀ k, (∀ y0 y1 y2 y3 y4 y5 y6 y7 y8 y9 y10, LeO (head_Parse.j0 k y0 y1 y2 y3 y4 y5 y6 y7 y8 y9 y10) (head_Parse.j0 (k + 1) y0 y1 y2 y3 y4 y5 y6 y7 y8 y9 y10)) ∧ (∀ y0 y1 y2 y3 y4 y5 y6 y7 y8 y9, LeO (head_Parse.l0 k y0 y1 y2 y3 y4 y5 y6 y7 y8 y9) (head_Parse.l0 (k + 1) y0 y1 y2 y3 y4 y5 y6 y7 y8 y9)) ∧ (∀ y0 y1 y2 y3 y4 y5 y6 y7 y8 y9 y10 y11 y12, LeO (head_Parse.j2 k y0 y1 y2 y3 y4 y5 y6 y7 y8 y9 y10 y11 y12) (head_Parse.j2 (k + 1) y0 y1 y2 y3 y4 y5 y6 y7 y8 y9 y10 y11 y12))
  | 0 => ⟨fun _ _ _ _ _ _ _ _ _ _ _ r h => by simp [head_Parse.j0] at h, fun _ _ _ _ _ _ _ _ _ _ r h => by simp [head_Parse.l0] at h, fun _ _ _ _ _ _ _ _ _ _ _ _ _ r h => by simp [head_Parse.j2] at h⟩
  | k + 1 => by
    obtain ⟨ih0, ih1, ih2⟩ := head_Parse.mono_l k;refine ⟨?_, ?_, ?_⟩
    · intro y0 y1 y2 y3 y4 y5 y6 y7 y8 y9 y10;unfold head_Parse.j0
      repeat' with_reducible first | exact ih0 _ _ _ _ _ _ _ _ _ _ _ | exact ih1 _ _ _ _ _ _ _ _ _ _ | exact ih2 _ _ _ _ _ _ _ _ _ _ _ _ _ | exact head_Host.mono _ _ | exact head_target.mono _ _ | exact head_token.mono _ _ | exact head_value.mono _ _ | exact LeO.refl _ | exact LeO.none _ | refine LeO.ite ?_ ?_ | refine LeO.bind ?_ (fun _ => ?_)
    · intro y0 y1 y2 y3 y4 y5 y6 y7 y8 y9;unfold head_Parse.l0
      repeat' with_reducible first | exact ih0 _ _ _ _ _ _ _ _ _ _ _ | exact ih1 _ _ _ _ _ _ _ _ _ _ | exact ih2 _ _ _ _ _ _ _ _ _ _ _ _ _ | exact head_Host.mono _ _ | exact head_target.mono _ _ | exact head_token.mono _ _ | exact head_value.mono _ _ | exact LeO.refl _ | exact LeO.none _ | refine LeO.ite ?_ ?_ | refine LeO.bind ?_ (fun _ => ?_)
    intro y0 y1 y2 y3 y4 y5 y6 y7 y8 y9 y10 y11 y12;unfold head_Parse.j2
    repeat' with_reducible first | exact ih0 _ _ _ _ _ _ _ _ _ _ _ | exact ih1 _ _ _ _ _ _ _ _ _ _ | exact ih2 _ _ _ _ _ _ _ _ _ _ _ _ _ | exact head_Host.mono _ _ | exact head_target.mono _ _ | exact head_token.mono _ _ | exact head_value.mono _ _ | exact LeO.refl _ | exact LeO.none _ | refine LeO.ite ?_ ?_ | refine LeO.bind ?_ (fun _ => ?_)
theorem head_Parse.mono : ∀ a0 k, LeO (head_Parse.f k a0) (head_Parse.f (k + 1) a0) := by
  intro a0 k;obtain ⟨ih0, ih1, ih2⟩ := head_Parse.mono_l k;unfold head_Parse.f
  repeat' with_reducible first | exact ih0 _ _ _ _ _ _ _ _ _ _ _ | exact ih1 _ _ _ _ _ _ _ _ _ _ | exact ih2 _ _ _ _ _ _ _ _ _ _ _ _ _ | exact head_Host.mono _ _ | exact head_target.mono _ _ | exact head_token.mono _ _ | exact head_value.mono _ _ | exact LeO.refl _ | exact LeO.none _ | refine LeO.ite ?_ ?_ | refine LeO.bind ?_ (fun _ => ?_)
def head_Parse.T19 : Bool × List (List Nat × List Nat) := (true, [([], []), ([0], [0]), ([], []), ([2], [2]), ([], []), ([3, 4], [3, 4]), ([5], [5]), ([1, 6, 3], [1, 6]), ([0, 1, 2, 3, 4, 5, 6, 7], []), ([8, 7, 7, 0, 1, 2, 3, 4, 5, 6, 7], [7, 8])])
def head_Parse.B19 : List Nat := [0, 1, 0, 4, 0, 28, 60, 127, 255, 511]
theorem head_Parse.tab19 : rtab .any (opsOf Tryz.f57 19) = head_Parse.T19 := by kernel_rfl
theorem head_Parse.bits19 : waitsOk head_Parse.T19.2 head_Parse.B19 = true := by kernel_rfl
set_option maxRecDepth 100000 in
theorem head_Parse.loop1 {P : Program} {r1 : Code} {Q : Exit → Act → World → Prop} {K0 : Act → World → Prop} {w : World} {e0 e1 e2 e3 e4 e5 e6 e7 e8 e9 e10 e11 e12 e13 e14 e15 e16 e17 e18 e19 e20 e21 e22 e23 e24 e25 e26 e27 e28 e29 e30 e31 e32 e33 e34 e35 e36 e37 e38 e39 e40 e41 e42 e43 e44 e45 e46 e47 e48 e49 e50 e51 e52 e53 e54 e55 e56 e57 e58 e59 e60 e61 e62 e63 e64 e65 e66 e67 e68 e69 e70 e71 e72 e73 e74 e75 e76 e77 e78 e79 e80 e81 e82 e83 e84 e85 e86 e87 e88 e89 e90 e91 e92 e93 e94 e95 e96 e97 e98 e99 e100 e101 e102 e103 e104 e105 e106 e107 e108 e109 e110 e111 e112 e113 e114 e115 e116 e117 e118 e119 e120 e121 e122 e123 e124 e125 e126 e127 e128 e129 e130 e131 e132 e133 e134 e135 e136 e137 e138 e139 e140 e141 e142 e143 : Value} (n₀ : Nat) (rel : Nat → Value → Value → Value → World → Prop) (h₀ : rel n₀ e9 e10 e11 w)
    (round : ∀ (gk : Nat) (wr : World) (u9 u10 u11 u18 u19 u20 u78 u79 u80 u81 u82 u83 u84 u85 u86 u87 u88 u89 u90 u91 u92 u93 u94 u95 u96 u97 u98 u99 u100 u101 u102 u103 u104 u105 u106 u107 u108 u109 u110 u111 u112 u113 u114 u115 u116 u117 u118 u119 u120 u121 u122 u123 u124 u125 u126 u127 : Value), rel gk u9 u10 u11 wr → ∀ (J : Nat → Act → World → Prop) (K : Act → World → Prop), (∀ k' a' w', (∃ u9 u10 u11 u18 u19 u20 u78 u79 u80 u81 u82 u83 u84 u85 u86 u87 u88 u89 u90 u91 u92 u93 u94 u95 u96 u97 u98 u99 u100 u101 u102 u103 u104 u105 u106 u107 u108 u109 u110 u111 u112 u113 u114 u115 u116 u117 u118 u119 u120 u121 u122 u123 u124 u125 u126 u127 : Value, rel k' u9 u10 u11 w' ∧ a' = { tmps := #[e0, e1, e2, e3, e4, e5, e6, e7, e8, u9, u10, u11, e12, e13, e14, e15, e16, e17, u18, u19, u20, e21, e22, e23, e24, e25, e26, e27, e28, e29, e30, e31, e32, e33, e34, e35, e36, e37, e38, e39, e40, e41, e42, e43, e44, e45, e46, e47, e48, e49, e50, e51, e52, e53, e54, e55, e56, e57, e58, e59, e60, e61, e62, e63, e64, e65, e66, e67, e68, e69, e70, e71, e72, e73, e74, e75, e76, e77, u78, u79, u80, u81, u82, u83, u84, u85, u86, u87, u88, u89, u90, u91, u92, u93, u94, u95, u96, u97, u98, u99, u100, u101, u102, u103, u104, u105, u106, u107, u108, u109, u110, u111, u112, u113, u114, u115, u116, u117, u118, u119, u120, u121, u122, u123, u124, u125, u126, u127, e128, e129, e130, e131, e132, e133, e134, e135, e136, e137, e138, e139, e140, e141, e142, e143], defers := [] }) → J k' a' w') → (∀ a' w', Handed J gk a' w' → K a' w') → r1.wp P (Exit.two Q K0 K) { tmps := #[e0, e1, e2, e3, e4, e5, e6, e7, e8, u9, u10, u11, e12, e13, e14, e15, e16, e17, u18, u19, u20, e21, e22, e23, e24, e25, e26, e27, e28, e29, e30, e31, e32, e33, e34, e35, e36, e37, e38, e39, e40, e41, e42, e43, e44, e45, e46, e47, e48, e49, e50, e51, e52, e53, e54, e55, e56, e57, e58, e59, e60, e61, e62, e63, e64, e65, e66, e67, e68, e69, e70, e71, e72, e73, e74, e75, e76, e77, u78, u79, u80, u81, u82, u83, u84, u85, u86, u87, u88, u89, u90, u91, u92, u93, u94, u95, u96, u97, u98, u99, u100, u101, u102, u103, u104, u105, u106, u107, u108, u109, u110, u111, u112, u113, u114, u115, u116, u117, u118, u119, u120, u121, u122, u123, u124, u125, u126, u127, e128, e129, e130, e131, e132, e133, e134, e135, e136, e137, e138, e139, e140, e141, e142, e143], defers := [] } wr) :
    Scope.LW P r1 K0 Q { tmps := #[e0, e1, e2, e3, e4, e5, e6, e7, e8, e9, e10, e11, e12, e13, e14, e15, e16, e17, e18, e19, e20, e21, e22, e23, e24, e25, e26, e27, e28, e29, e30, e31, e32, e33, e34, e35, e36, e37, e38, e39, e40, e41, e42, e43, e44, e45, e46, e47, e48, e49, e50, e51, e52, e53, e54, e55, e56, e57, e58, e59, e60, e61, e62, e63, e64, e65, e66, e67, e68, e69, e70, e71, e72, e73, e74, e75, e76, e77, e78, e79, e80, e81, e82, e83, e84, e85, e86, e87, e88, e89, e90, e91, e92, e93, e94, e95, e96, e97, e98, e99, e100, e101, e102, e103, e104, e105, e106, e107, e108, e109, e110, e111, e112, e113, e114, e115, e116, e117, e118, e119, e120, e121, e122, e123, e124, e125, e126, e127, e128, e129, e130, e131, e132, e133, e134, e135, e136, e137, e138, e139, e140, e141, e142, e143], defers := [] } w := by
  refine ⟨fun k' a' w' => ∃ u9 u10 u11 u18 u19 u20 u78 u79 u80 u81 u82 u83 u84 u85 u86 u87 u88 u89 u90 u91 u92 u93 u94 u95 u96 u97 u98 u99 u100 u101 u102 u103 u104 u105 u106 u107 u108 u109 u110 u111 u112 u113 u114 u115 u116 u117 u118 u119 u120 u121 u122 u123 u124 u125 u126 u127 : Value, rel k' u9 u10 u11 w' ∧ a' = { tmps := #[e0, e1, e2, e3, e4, e5, e6, e7, e8, u9, u10, u11, e12, e13, e14, e15, e16, e17, u18, u19, u20, e21, e22, e23, e24, e25, e26, e27, e28, e29, e30, e31, e32, e33, e34, e35, e36, e37, e38, e39, e40, e41, e42, e43, e44, e45, e46, e47, e48, e49, e50, e51, e52, e53, e54, e55, e56, e57, e58, e59, e60, e61, e62, e63, e64, e65, e66, e67, e68, e69, e70, e71, e72, e73, e74, e75, e76, e77, u78, u79, u80, u81, u82, u83, u84, u85, u86, u87, u88, u89, u90, u91, u92, u93, u94, u95, u96, u97, u98, u99, u100, u101, u102, u103, u104, u105, u106, u107, u108, u109, u110, u111, u112, u113, u114, u115, u116, u117, u118, u119, u120, u121, u122, u123, u124, u125, u126, u127, e128, e129, e130, e131, e132, e133, e134, e135, e136, e137, e138, e139, e140, e141, e142, e143], defers := [] }, n₀, ⟨e9, e10, e11, e18, e19, e20, e78, e79, e80, e81, e82, e83, e84, e85, e86, e87, e88, e89, e90, e91, e92, e93, e94, e95, e96, e97, e98, e99, e100, e101, e102, e103, e104, e105, e106, e107, e108, e109, e110, e111, e112, e113, e114, e115, e116, e117, e118, e119, e120, e121, e122, e123, e124, e125, e126, e127, h₀, rfl⟩, fun n a w hI => ?_⟩;obtain ⟨u9, u10, u11, u18, u19, u20, u78, u79, u80, u81, u82, u83, u84, u85, u86, u87, u88, u89, u90, u91, u92, u93, u94, u95, u96, u97, u98, u99, u100, u101, u102, u103, u104, u105, u106, u107, u108, u109, u110, u111, u112, u113, u114, u115, u116, u117, u118, u119, u120, u121, u122, u123, u124, u125, u126, u127, hr, rfl⟩ := hI;exact round n w u9 u10 u11 u18 u19 u20 u78 u79 u80 u81 u82 u83 u84 u85 u86 u87 u88 u89 u90 u91 u92 u93 u94 u95 u96 u97 u98 u99 u100 u101 u102 u103 u104 u105 u106 u107 u108 u109 u110 u111 u112 u113 u114 u115 u116 u117 u118 u119 u120 u121 u122 u123 u124 u125 u126 u127 hr _ _ (fun _ _ _ h => h) (fun _ _ h => h)
set_option maxHeartbeats 8000000 in
set_option maxRecDepth 100000 in
theorem head_Parse.calls (k : Nat) (A0 : Option Addr) (c0 : Nat) (l0 : List Int) (r1 : ByteArray) (r2 : ByteArray) (r3 : ByteArray) (r4 : ByteArray) (r5 : List (S88)) (r6 : Int) (r7 : Int) (w : World) (hml : ML w) (hr0 : Kd.C (Kd.int .u8) w A0 l0.length l0) (hc0 : l0.length ≤ c0) (h : head_Parse.f k l0 = some (r1, r2, r3, r4, r5, r6, r7)) :
    Calls Tryz.prog 57 #[.slice A0 l0.length c0] w fun e w' => ∃ v4_ : Value, e = .returned (.tuple #[.agg #[.string r1, .string r2, .string r3, .string r4, v4_], .int .i64 r6, .int .i64 r7]) ∧ Kd.R k88 88 w' w.heap.size (fun _ => True) v4_ r5 ∧ Below w.heap.size w w' := by
  have HML := zN hml;clear hml;have kcb := fun (w_ : World) (C_ : Array Value) (n_ c_ : Nat) => Lib.run_convert_bytes_const (P := Tryz.prog) w_ 46 5 C_ n_ c_ Tryz.underlying46 Tryz.underlying5
  have hu25 := Tryz.underlying25;have hu88 := Tryz.underlying88;have HR0 := zN hr0;have HC0 := zN hc0;clear hr0 hc0;have HB := zN (Below.refl w.heap.size w);have H : (if 0 ≤ (mn (l0.length : Int) 2048) then (if (mn (l0.length : Int) 2048) ≤ (l0.length : Int) then ((bytes_Index.f (l0.take ((mn (l0.length : Int) 2048) : Int).toNat) (([13, 10, 13, 10] : List Int))).bind fun t392 => (if t392 < 0 then (if (l0.length : Int) < 2048 then (some ((⟨#[]⟩ : ByteArray), (⟨#[]⟩ : ByteArray), (⟨#[]⟩ : ByteArray), (⟨#[]⟩ : ByteArray), ([] : List (S88)), 0, 3)) else (some ((⟨#[]⟩ : ByteArray), (⟨#[]⟩ : ByteArray), (⟨#[]⟩ : ByteArray), (⟨#[]⟩ : ByteArray), ([] : List (S88)), 0, 6))) else (if 0 ≤ t392 then (if t392 ≤ (l0.length : Int) then ((strings_Split.f (strOfNums (l0.take (t392 : Int).toNat)) (⟨#[13, 10]⟩ : ByteArray)).bind fun t394 => (if 0 < (t394.length : Int) then ((strings_Cut.f (rdOf ByteArray.empty t394 0) (⟨#[32]⟩ : ByteArray)).bind fun bt399 => ((strings_Cut.f bt399.2.1 (⟨#[32]⟩ : ByteArray)).bind fun bt402 => ((head_target.f k bt402.1).bind fun bt405 => (if bt405.2.2.2 = true then ((head_token.f k bt399.1).bind fun t409 => (if t409 = true then (head_Parse.j0 k t392 t394 0 1 (⟨#[]⟩ : ByteArray) bt399.1 (bt402.2.1.toList != ([72, 84, 84, 80, 47, 49, 46, 49] : List UInt8)) (⟨#[]⟩ : ByteArray) bt405.1 bt405.2.1 bt405.2.2.1) else (head_Parse.j0 k t392 t394 0 1 (⟨#[]⟩ : ByteArray) bt399.1 true (⟨#[]⟩ : ByteArray) bt405.1 bt405.2.1 bt405.2.2.1))) else (head_Parse.j0 k t392 t394 0 1 (⟨#[]⟩ : ByteArray) bt399.1 true (⟨#[]⟩ : ByteArray) bt405.1 bt405.2.1 bt405.2.2.1))))) else (none))) else (none)) else (none)))) else (none)) else (none)) = some (r1, r2, r3, r4, r5, r6, r7) := h;clear h;obtain ⟨ji2, hji2⟩ : ∃ j_ : Int, (mn (l0.length : Int) 2048) = j_ := ⟨_, rfl⟩;replace H : (if 0 ≤ (ji2) then (if (ji2) ≤ (l0.length : Int) then ((bytes_Index.f (l0.take ((ji2) : Int).toNat) (([13, 10, 13, 10] : List Int))).bind fun t392 => (if t392 < 0 then (if (l0.length : Int) < 2048 then (some ((⟨#[]⟩ : ByteArray), (⟨#[]⟩ : ByteArray), (⟨#[]⟩ : ByteArray), (⟨#[]⟩ : ByteArray), ([] : List (S88)), 0, 3)) else (some ((⟨#[]⟩ : ByteArray), (⟨#[]⟩ : ByteArray), (⟨#[]⟩ : ByteArray), (⟨#[]⟩ : ByteArray), ([] : List (S88)), 0, 6))) else (if 0 ≤ t392 then (if t392 ≤ (l0.length : Int) then ((strings_Split.f (strOfNums (l0.take (t392 : Int).toNat)) (⟨#[13, 10]⟩ : ByteArray)).bind fun t394 => (if 0 < (t394.length : Int) then ((strings_Cut.f (rdOf ByteArray.empty t394 0) (⟨#[32]⟩ : ByteArray)).bind fun bt399 => ((strings_Cut.f bt399.2.1 (⟨#[32]⟩ : ByteArray)).bind fun bt402 => ((head_target.f k bt402.1).bind fun bt405 => (if bt405.2.2.2 = true then ((head_token.f k bt399.1).bind fun t409 => (if t409 = true then (head_Parse.j0 k t392 t394 0 1 (⟨#[]⟩ : ByteArray) bt399.1 (bt402.2.1.toList != ([72, 84, 84, 80, 47, 49, 46, 49] : List UInt8)) (⟨#[]⟩ : ByteArray) bt405.1 bt405.2.1 bt405.2.2.1) else (head_Parse.j0 k t392 t394 0 1 (⟨#[]⟩ : ByteArray) bt399.1 true (⟨#[]⟩ : ByteArray) bt405.1 bt405.2.1 bt405.2.2.1))) else (head_Parse.j0 k t392 t394 0 1 (⟨#[]⟩ : ByteArray) bt399.1 true (⟨#[]⟩ : ByteArray) bt405.1 bt405.2.1 bt405.2.2.1))))) else (none))) else (none)) else (none)))) else (none)) else (none)) = some (r1, r2, r3, r4, r5, r6, r7) := by first | (rw [hji2] at H; exact H) | (simp only [hji2] at H ⊢; exact H)
  (try (have hji2h : ji2 ≤ 2048 := by (rw [← hji2]; unfold mn; (repeat' split) <;> omega)));(try (have hji2g : ji2 ≤ 64 := zO));(try (have hji2l : 0 ≤ ji2 := by (rw [← hji2]; unfold mn; (repeat' split) <;> omega)));(try (have hji2m : 0 ≤ ji2 := zO));have hji2_ : (if 2048 < (l0.length : Int) then 2048 else (l0.length : Int)) = ji2 := hji2;by_cases c3 : 0 ≤ (ji2);rotate_left
  · rw [zn c3] at H;exact absurd H (by simp)
  rw [zp c3] at H;have c3b0 := zu c3;have c3b1 := zt c3;clear c3;by_cases c4 : (ji2) ≤ (l0.length : Int);rotate_left
  · rw [zn c4] at H;exact absurd H (by simp)
  rw [zp c4] at H;have c4b0 := zu c4;have c4b1 := zt c4;clear c4;obtain ⟨y389, hy389⟩ : ∃ y_ : List Int, y_ = (([13, 10, 13, 10] : List Int)) := ⟨_, rfl⟩;replace H : ((bytes_Index.f (l0.take ((ji2) : Int).toNat) y389).bind fun t392 => (if t392 < 0 then (if (l0.length : Int) < 2048 then (some ((⟨#[]⟩ : ByteArray), (⟨#[]⟩ : ByteArray), (⟨#[]⟩ : ByteArray), (⟨#[]⟩ : ByteArray), ([] : List (S88)), 0, 3)) else (some ((⟨#[]⟩ : ByteArray), (⟨#[]⟩ : ByteArray), (⟨#[]⟩ : ByteArray), (⟨#[]⟩ : ByteArray), ([] : List (S88)), 0, 6))) else (if 0 ≤ t392 then (if t392 ≤ (l0.length : Int) then ((strings_Split.f (strOfNums (l0.take (t392 : Int).toNat)) (⟨#[13, 10]⟩ : ByteArray)).bind fun t394 => (if 0 < (t394.length : Int) then ((strings_Cut.f (rdOf ByteArray.empty t394 0) (⟨#[32]⟩ : ByteArray)).bind fun bt399 => ((strings_Cut.f bt399.2.1 (⟨#[32]⟩ : ByteArray)).bind fun bt402 => ((head_target.f k bt402.1).bind fun bt405 => (if bt405.2.2.2 = true then ((head_token.f k bt399.1).bind fun t409 => (if t409 = true then (head_Parse.j0 k t392 t394 0 1 (⟨#[]⟩ : ByteArray) bt399.1 (bt402.2.1.toList != ([72, 84, 84, 80, 47, 49, 46, 49] : List UInt8)) (⟨#[]⟩ : ByteArray) bt405.1 bt405.2.1 bt405.2.2.1) else (head_Parse.j0 k t392 t394 0 1 (⟨#[]⟩ : ByteArray) bt399.1 true (⟨#[]⟩ : ByteArray) bt405.1 bt405.2.1 bt405.2.2.1))) else (head_Parse.j0 k t392 t394 0 1 (⟨#[]⟩ : ByteArray) bt399.1 true (⟨#[]⟩ : ByteArray) bt405.1 bt405.2.1 bt405.2.2.1))))) else (none))) else (none)) else (none)))) = some (r1, r2, r3, r4, r5, r6, r7) := by first | (rw [hy389]; with_reducible exact H) | (have H2_ := (Option.bind_some _ _).symm.trans H; rw [hy389]; with_reducible exact H2_) | (have H2_ := (Option.bind_some _ _).symm.trans H; with_reducible exact H2_) | with_reducible exact H | (rw [hy389]; exact H) | exact H
  have Ny389 := zN hy389;clear hy389;obtain ⟨t392, A5, H⟩ := zA H;(try dsimp only at H);by_cases c6 : t392 < 0
  · rw [zp c6] at H;have c6b0 := zt c6;clear c6;by_cases c7 : (l0.length : Int) < 2048
    · rw [zp c7] at H;have c7b0 := zt c7;have c7b1 : decide (l0.length < 2048) = true := zt zO;clear c7;simp only [Option.some.injEq, Prod.mk.injEq] at H;obtain ⟨rfl, rfl, rfl, rfl, rfl, rfl, rfl⟩ := H;go_enter Tryz.func57, Tryz.ntmps57;go_wp2_with (first | ((with_reducible refine gate_dst (N := 2) rfl ?_); refine zX #[.string (⟨#[]⟩ : ByteArray), .string (⟨#[]⟩ : ByteArray), .string (⟨#[]⟩ : ByteArray), .string (⟨#[]⟩ : ByteArray), .slice none 0 0] 25 rfl ?_; intro gb387 hg w8 hbox hb; have BK387 := zN hbox; have GW387 := zY w (zB HB) hg; have GE387 := zY w (zB HB) hg; replace HB := zk HB hb; clear hb hbox hg; obtain ⟨i09, hi09, _, hsz9, _⟩ := info_parts info5; obtain ⟨hcut9, hA9, hC9⟩ := print_take_of (P := Tryz.prog) (Value.int .u8) 0 46 5 .i64 Tryz.underlying46 hi09 hsz9 A0 c0 l0 (ji2) (zd zS) (zd zS) HC0.out; have HR388 := zN (Kd.C_of_reads (h1 := fun _ => rfl) (hA9 _ (Kd.reads_of_C HR0.out))); have HC388 := zN hC9; clear hA9 hC9 hi09 hsz9) | ((with_reducible refine gate_dst (N := 27) rfl ?_); refine Kd.V_lit (Kd.int .u8) _ 5 ?hg (N := 27) ?hd (xs := ([13, 10, 13, 10] : List Int)) (inner := [.int .u8 13, .int .u8 10, .int .u8 13, .int .u8 10]) (ok := fun k_ => w8.heap.size ≤ k_) (okp := fun _ => False) ?hr ?hp (fun _ hk => hk.elim) (zh _) (Below.refl _ _) (zh _) (by simp) ?_; (case hd => rfl); (case hg => rfl); (case hr => first | (go_simp; done) | (go_simp; rfl)); (case hp => exact (Reps.one (show Kd.M (Kd.int .u8) _ _ _ 13 [.int .u8 13] from rfl) (Reps.one (show Kd.M (Kd.int .u8) _ _ _ 10 [.int .u8 10] from rfl) (Reps.one (show Kd.M (Kd.int .u8) _ _ _ 13 [.int .u8 13] from rfl) (Reps.one (show Kd.M (Kd.int .u8) _ _ _ 10 [.int .u8 10] from rfl) (Reps.none _ _)))))); intro v390 w10 ho11 hb hg_ hnew_; clear hg_ hnew_; (first | rw [← Ny389.out] at ho11 | (simp only [Int.reduceToNat] at ho11; rw [← Ny389.out] at ho11)); have HO391 := zN (Kd.V_lower (Kd.V_mono (ok' := fun k_ => k_ ≠ gb387) ho11 (fun k_ hk_ => (Kd.freshB (g := gb387) (o := .cells #[.string (⟨#[]⟩ : ByteArray), .string (⟨#[]⟩ : ByteArray), .string (⟨#[]⟩ : ByteArray), .string (⟨#[]⟩ : ByteArray), .slice none 0 0] 25 (0, 0)) (zK BK387) k_ hk_))) (below_size (zB1 HB GE387))); replace BK387 := zj BK387 hb; replace HB := zk1 HB GE387 hb; clear hb ho11; obtain ⟨Ao12, co12, eo12⟩ := Kd.V_slice HO391.out; subst eo12) | ((with_reducible refine gate_callee (f := 83) rfl ?_); refine goesL_ (some 28) rfl rfl Tryz.func83 zQ rfl #[.slice A0 (l0.take ((ji2) : Int).toNat).length c0, .slice Ao12 y389.length co12] rfl (by (try simp only [List.map_toArray, List.map_cons, List.map_nil]); first | done | (rw [show (l0.take ((ji2) : Int).toNat).length = (ji2).toNat from (by rw [List.length_take]; have h_ : ((ji2) : Int) ≤ (l0.length : Int) := zd zS; omega)] <;> rfl) | (simp only [hji2]; rfl) | rfl | (simp only [List.length_drop, List.length_take]; rfl)) ?_; (with_reducible refine (bytes_Index.calls _ _ (l0.take ((ji2) : Int).toNat) _ _ y389 t392 _ ?side1 ?side2 ?side3 ?side4 ?side5 A5.out).mono ?_); (case side1 => exact ML.keep HML.out (zB1 HB GE387)); (case side2 => exact zs (Kd.C_below HR388.out HB.out)); (case side3 => exact HC388.out); (case side4 => exact zs (Kd.V_reads' HO391.out).2.2); (case side5 => exact (Kd.V_reads' HO391.out).2.1); rintro e w' ⟨rfl, ⟨nd, rfl⟩⟩; refine ⟨_, rfl, ?_⟩; (try (rw [drewN_self w10]; generalize hq_ : World.drewN w10 _ = w10; replace HO391 : Aside0 (Kd.V (Kd.int .u8) 5 w10 w.heap.size (fun k_ => k_ ≠ gb387) (.slice Ao12 y389.length co12) y389) := ⟨by rw [← hq_]; exact (by (with_reducible repeat (first | apply Kd.V_alloc | apply Kd.V_drewN | apply Kd.V_drew)); exact HO391.out)⟩; replace BK387 : Aside0 (w10.heap[gb387]? = some (.cells #[.string (⟨#[]⟩ : ByteArray), .string (⟨#[]⟩ : ByteArray), .string (⟨#[]⟩ : ByteArray), .string (⟨#[]⟩ : ByteArray), .slice none 0 0] 25 (0, 0))) := ⟨by rw [← hq_]; exact (zK BK387)⟩; replace HB : Aside0 (Below w.heap.size w w10) := ⟨by rw [← hq_]; exact (zB1 HB GE387)⟩; clear hq_)); obtain ⟨hcz13_0, hcz13_1, hcz13_2, hcz13_3, hcz13_4, hfz13_0, hfz13_1, hfz13_2, hfz13_3, hfz13_4⟩ := zC5 BK387))
      refine Scope.wp_scope_two (by rfl) (by rfl) (fun K0 hK0_ K1 hK1_ => ?_);have hK0 := zN hK0_;have hK1 := zN hK1_;clear hK0_ hK1_;go_wp2_with (first | ((with_reducible refine gate_dst (N := 2) rfl ?_); refine zX #[.string (⟨#[]⟩ : ByteArray), .string (⟨#[]⟩ : ByteArray), .string (⟨#[]⟩ : ByteArray), .string (⟨#[]⟩ : ByteArray), .slice none 0 0] 25 rfl ?_; intro gb387 hg w8 hbox hb; have BK387 := zN hbox; have GW387 := zY w (zB HB) hg; have GE387 := zY w (zB HB) hg; replace HB := zk HB hb; clear hb hbox hg; obtain ⟨i09, hi09, _, hsz9, _⟩ := info_parts info5; obtain ⟨hcut9, hA9, hC9⟩ := print_take_of (P := Tryz.prog) (Value.int .u8) 0 46 5 .i64 Tryz.underlying46 hi09 hsz9 A0 c0 l0 (ji2) (zd zS) (zd zS) HC0.out; have HR388 := zN (Kd.C_of_reads (h1 := fun _ => rfl) (hA9 _ (Kd.reads_of_C HR0.out))); have HC388 := zN hC9; clear hA9 hC9 hi09 hsz9) | ((with_reducible refine gate_dst (N := 27) rfl ?_); refine Kd.V_lit (Kd.int .u8) _ 5 ?hg (N := 27) ?hd (xs := ([13, 10, 13, 10] : List Int)) (inner := [.int .u8 13, .int .u8 10, .int .u8 13, .int .u8 10]) (ok := fun k_ => w8.heap.size ≤ k_) (okp := fun _ => False) ?hr ?hp (fun _ hk => hk.elim) (zh _) (Below.refl _ _) (zh _) (by simp) ?_; (case hd => rfl); (case hg => rfl); (case hr => first | (go_simp; done) | (go_simp; rfl)); (case hp => exact (Reps.one (show Kd.M (Kd.int .u8) _ _ _ 13 [.int .u8 13] from rfl) (Reps.one (show Kd.M (Kd.int .u8) _ _ _ 10 [.int .u8 10] from rfl) (Reps.one (show Kd.M (Kd.int .u8) _ _ _ 13 [.int .u8 13] from rfl) (Reps.one (show Kd.M (Kd.int .u8) _ _ _ 10 [.int .u8 10] from rfl) (Reps.none _ _)))))); intro v390 w10 ho11 hb hg_ hnew_; clear hg_ hnew_; (first | rw [← Ny389.out] at ho11 | (simp only [Int.reduceToNat] at ho11; rw [← Ny389.out] at ho11)); have HO391 := zN (Kd.V_lower (Kd.V_mono (ok' := fun k_ => k_ ≠ gb387) ho11 (fun k_ hk_ => (Kd.freshB (g := gb387) (o := .cells #[.string (⟨#[]⟩ : ByteArray), .string (⟨#[]⟩ : ByteArray), .string (⟨#[]⟩ : ByteArray), .string (⟨#[]⟩ : ByteArray), .slice none 0 0] 25 (0, 0)) (zK BK387) k_ hk_))) (below_size (zB1 HB GE387))); replace BK387 := zj BK387 hb; replace HB := zk1 HB GE387 hb; clear hb ho11; obtain ⟨Ao12, co12, eo12⟩ := Kd.V_slice HO391.out; subst eo12) | ((with_reducible refine gate_callee (f := 83) rfl ?_); refine goesL_ (some 28) rfl rfl Tryz.func83 zQ rfl #[.slice A0 (l0.take ((ji2) : Int).toNat).length c0, .slice Ao12 y389.length co12] rfl (by (try simp only [List.map_toArray, List.map_cons, List.map_nil]); first | done | (rw [show (l0.take ((ji2) : Int).toNat).length = (ji2).toNat from (by rw [List.length_take]; have h_ : ((ji2) : Int) ≤ (l0.length : Int) := zd zS; omega)] <;> rfl) | (simp only [hji2]; rfl) | rfl | (simp only [List.length_drop, List.length_take]; rfl)) ?_; (with_reducible refine (bytes_Index.calls _ _ (l0.take ((ji2) : Int).toNat) _ _ y389 t392 _ ?side1 ?side2 ?side3 ?side4 ?side5 A5.out).mono ?_); (case side1 => exact ML.keep HML.out (zB1 HB GE387)); (case side2 => exact zs (Kd.C_below HR388.out HB.out)); (case side3 => exact HC388.out); (case side4 => exact zs (Kd.V_reads' HO391.out).2.2); (case side5 => exact (Kd.V_reads' HO391.out).2.1); rintro e w' ⟨rfl, ⟨nd, rfl⟩⟩; refine ⟨_, rfl, ?_⟩; (try (rw [drewN_self w10]; generalize hq_ : World.drewN w10 _ = w10; replace HO391 : Aside0 (Kd.V (Kd.int .u8) 5 w10 w.heap.size (fun k_ => k_ ≠ gb387) (.slice Ao12 y389.length co12) y389) := ⟨by rw [← hq_]; exact (by (with_reducible repeat (first | apply Kd.V_alloc | apply Kd.V_drewN | apply Kd.V_drew)); exact HO391.out)⟩; replace BK387 : Aside0 (w10.heap[gb387]? = some (.cells #[.string (⟨#[]⟩ : ByteArray), .string (⟨#[]⟩ : ByteArray), .string (⟨#[]⟩ : ByteArray), .string (⟨#[]⟩ : ByteArray), .slice none 0 0] 25 (0, 0))) := ⟨by rw [← hq_]; exact (zK BK387)⟩; replace HB : Aside0 (Below w.heap.size w w10) := ⟨by rw [← hq_]; exact (zB1 HB GE387)⟩; clear hq_)); obtain ⟨hcz13_0, hcz13_1, hcz13_2, hcz13_3, hcz13_4, hfz13_0, hfz13_1, hfz13_2, hfz13_3, hfz13_4⟩ := zC5 BK387))
      (try ((with_reducible refine wp_goto ?_); refine Or.inl ⟨rfl, ?_⟩; refine hK0.out _ _ ?_; go_wp2));(try simp only [Exit.two_ret, Exit.noGoto_ret]);refine bodyPost_ret (results_ctt rfl _ _ gb387 25 #[.string (⟨#[]⟩ : ByteArray), .string (⟨#[]⟩ : ByteArray), .string (⟨#[]⟩ : ByteArray), .string (⟨#[]⟩ : ByteArray), .slice none 0 0] (0, 0) _ rfl (zF BK387) Tryz.underlying25 rfl zQ) rfl ?_;exact ⟨_, by first | rfl | (simp [errW_none, errW_some] <;> rfl) | (simp only [← hji2]; first | rfl | (simp [errW_none, errW_some] <;> rfl)) | (simp [*, errW_none, errW_some] <;> rfl), by first | exact Kd.R_nil _ _ _ _ _ | exact Kd.N_nil _ _ _ _ _ | exact Kd.V_nil _ _ _ _ _ | exact Kd.Q_nil _ _ _ _ _ | exact Kd.S_nil _ _ _ _ _, zB1 HB GE387⟩
    rw [zn c7] at H;have c7b0 := zf c7;have c7b1 : decide (l0.length < 2048) = false := zf zO;clear c7;simp only [Option.some.injEq, Prod.mk.injEq] at H;obtain ⟨rfl, rfl, rfl, rfl, rfl, rfl, rfl⟩ := H;go_enter Tryz.func57, Tryz.ntmps57;go_wp2_with (first | ((with_reducible refine gate_dst (N := 2) rfl ?_); refine zX #[.string (⟨#[]⟩ : ByteArray), .string (⟨#[]⟩ : ByteArray), .string (⟨#[]⟩ : ByteArray), .string (⟨#[]⟩ : ByteArray), .slice none 0 0] 25 rfl ?_; intro gb387 hg w14 hbox hb; have BK387 := zN hbox; have GW387 := zY w (zB HB) hg; have GE387 := zY w (zB HB) hg; replace HB := zk HB hb; clear hb hbox hg; obtain ⟨i015, hi015, _, hsz15, _⟩ := info_parts info5; obtain ⟨hcut15, hA15, hC15⟩ := print_take_of (P := Tryz.prog) (Value.int .u8) 0 46 5 .i64 Tryz.underlying46 hi015 hsz15 A0 c0 l0 (ji2) (zd zS) (zd zS) HC0.out; have HR388 := zN (Kd.C_of_reads (h1 := fun _ => rfl) (hA15 _ (Kd.reads_of_C HR0.out))); have HC388 := zN hC15; clear hA15 hC15 hi015 hsz15) | ((with_reducible refine gate_dst (N := 27) rfl ?_); refine Kd.V_lit (Kd.int .u8) _ 5 ?hg (N := 27) ?hd (xs := ([13, 10, 13, 10] : List Int)) (inner := [.int .u8 13, .int .u8 10, .int .u8 13, .int .u8 10]) (ok := fun k_ => w14.heap.size ≤ k_) (okp := fun _ => False) ?hr ?hp (fun _ hk => hk.elim) (zh _) (Below.refl _ _) (zh _) (by simp) ?_; (case hd => rfl); (case hg => rfl); (case hr => first | (go_simp; done) | (go_simp; rfl)); (case hp => exact (Reps.one (show Kd.M (Kd.int .u8) _ _ _ 13 [.int .u8 13] from rfl) (Reps.one (show Kd.M (Kd.int .u8) _ _ _ 10 [.int .u8 10] from rfl) (Reps.one (show Kd.M (Kd.int .u8) _ _ _ 13 [.int .u8 13] from rfl) (Reps.one (show Kd.M (Kd.int .u8) _ _ _ 10 [.int .u8 10] from rfl) (Reps.none _ _)))))); intro v390 w16 ho17 hb hg_ hnew_; clear hg_ hnew_; (first | rw [← Ny389.out] at ho17 | (simp only [Int.reduceToNat] at ho17; rw [← Ny389.out] at ho17)); have HO391 := zN (Kd.V_lower (Kd.V_mono (ok' := fun k_ => k_ ≠ gb387) ho17 (fun k_ hk_ => (Kd.freshB (g := gb387) (o := .cells #[.string (⟨#[]⟩ : ByteArray), .string (⟨#[]⟩ : ByteArray), .string (⟨#[]⟩ : ByteArray), .string (⟨#[]⟩ : ByteArray), .slice none 0 0] 25 (0, 0)) (zK BK387) k_ hk_))) (below_size (zB1 HB GE387))); replace BK387 := zj BK387 hb; replace HB := zk1 HB GE387 hb; clear hb ho17; obtain ⟨Ao18, co18, eo18⟩ := Kd.V_slice HO391.out; subst eo18) | ((with_reducible refine gate_callee (f := 83) rfl ?_); refine goesL_ (some 28) rfl rfl Tryz.func83 zQ rfl #[.slice A0 (l0.take ((ji2) : Int).toNat).length c0, .slice Ao18 y389.length co18] rfl (by (try simp only [List.map_toArray, List.map_cons, List.map_nil]); first | done | (rw [show (l0.take ((ji2) : Int).toNat).length = (ji2).toNat from (by rw [List.length_take]; have h_ : ((ji2) : Int) ≤ (l0.length : Int) := zd zS; omega)] <;> rfl) | (simp only [hji2]; rfl) | rfl | (simp only [List.length_drop, List.length_take]; rfl)) ?_; (with_reducible refine (bytes_Index.calls _ _ (l0.take ((ji2) : Int).toNat) _ _ y389 t392 _ ?side1 ?side2 ?side3 ?side4 ?side5 A5.out).mono ?_); (case side1 => exact ML.keep HML.out (zB1 HB GE387)); (case side2 => exact zs (Kd.C_below HR388.out HB.out)); (case side3 => exact HC388.out); (case side4 => exact zs (Kd.V_reads' HO391.out).2.2); (case side5 => exact (Kd.V_reads' HO391.out).2.1); rintro e w' ⟨rfl, ⟨nd, rfl⟩⟩; refine ⟨_, rfl, ?_⟩; (try (rw [drewN_self w16]; generalize hq_ : World.drewN w16 _ = w16; replace HO391 : Aside0 (Kd.V (Kd.int .u8) 5 w16 w.heap.size (fun k_ => k_ ≠ gb387) (.slice Ao18 y389.length co18) y389) := ⟨by rw [← hq_]; exact (by (with_reducible repeat (first | apply Kd.V_alloc | apply Kd.V_drewN | apply Kd.V_drew)); exact HO391.out)⟩; replace BK387 : Aside0 (w16.heap[gb387]? = some (.cells #[.string (⟨#[]⟩ : ByteArray), .string (⟨#[]⟩ : ByteArray), .string (⟨#[]⟩ : ByteArray), .string (⟨#[]⟩ : ByteArray), .slice none 0 0] 25 (0, 0))) := ⟨by rw [← hq_]; exact (zK BK387)⟩; replace HB : Aside0 (Below w.heap.size w w16) := ⟨by rw [← hq_]; exact (zB1 HB GE387)⟩; clear hq_)); obtain ⟨hcz19_0, hcz19_1, hcz19_2, hcz19_3, hcz19_4, hfz19_0, hfz19_1, hfz19_2, hfz19_3, hfz19_4⟩ := zC5 BK387))
    refine Scope.wp_scope_two (by rfl) (by rfl) (fun K0 hK0_ K1 hK1_ => ?_);have hK0 := zN hK0_;have hK1 := zN hK1_;clear hK0_ hK1_;go_wp2_with (first | ((with_reducible refine gate_dst (N := 2) rfl ?_); refine zX #[.string (⟨#[]⟩ : ByteArray), .string (⟨#[]⟩ : ByteArray), .string (⟨#[]⟩ : ByteArray), .string (⟨#[]⟩ : ByteArray), .slice none 0 0] 25 rfl ?_; intro gb387 hg w14 hbox hb; have BK387 := zN hbox; have GW387 := zY w (zB HB) hg; have GE387 := zY w (zB HB) hg; replace HB := zk HB hb; clear hb hbox hg; obtain ⟨i015, hi015, _, hsz15, _⟩ := info_parts info5; obtain ⟨hcut15, hA15, hC15⟩ := print_take_of (P := Tryz.prog) (Value.int .u8) 0 46 5 .i64 Tryz.underlying46 hi015 hsz15 A0 c0 l0 (ji2) (zd zS) (zd zS) HC0.out; have HR388 := zN (Kd.C_of_reads (h1 := fun _ => rfl) (hA15 _ (Kd.reads_of_C HR0.out))); have HC388 := zN hC15; clear hA15 hC15 hi015 hsz15) | ((with_reducible refine gate_dst (N := 27) rfl ?_); refine Kd.V_lit (Kd.int .u8) _ 5 ?hg (N := 27) ?hd (xs := ([13, 10, 13, 10] : List Int)) (inner := [.int .u8 13, .int .u8 10, .int .u8 13, .int .u8 10]) (ok := fun k_ => w14.heap.size ≤ k_) (okp := fun _ => False) ?hr ?hp (fun _ hk => hk.elim) (zh _) (Below.refl _ _) (zh _) (by simp) ?_; (case hd => rfl); (case hg => rfl); (case hr => first | (go_simp; done) | (go_simp; rfl)); (case hp => exact (Reps.one (show Kd.M (Kd.int .u8) _ _ _ 13 [.int .u8 13] from rfl) (Reps.one (show Kd.M (Kd.int .u8) _ _ _ 10 [.int .u8 10] from rfl) (Reps.one (show Kd.M (Kd.int .u8) _ _ _ 13 [.int .u8 13] from rfl) (Reps.one (show Kd.M (Kd.int .u8) _ _ _ 10 [.int .u8 10] from rfl) (Reps.none _ _)))))); intro v390 w16 ho17 hb hg_ hnew_; clear hg_ hnew_; (first | rw [← Ny389.out] at ho17 | (simp only [Int.reduceToNat] at ho17; rw [← Ny389.out] at ho17)); have HO391 := zN (Kd.V_lower (Kd.V_mono (ok' := fun k_ => k_ ≠ gb387) ho17 (fun k_ hk_ => (Kd.freshB (g := gb387) (o := .cells #[.string (⟨#[]⟩ : ByteArray), .string (⟨#[]⟩ : ByteArray), .string (⟨#[]⟩ : ByteArray), .string (⟨#[]⟩ : ByteArray), .slice none 0 0] 25 (0, 0)) (zK BK387) k_ hk_))) (below_size (zB1 HB GE387))); replace BK387 := zj BK387 hb; replace HB := zk1 HB GE387 hb; clear hb ho17; obtain ⟨Ao18, co18, eo18⟩ := Kd.V_slice HO391.out; subst eo18) | ((with_reducible refine gate_callee (f := 83) rfl ?_); refine goesL_ (some 28) rfl rfl Tryz.func83 zQ rfl #[.slice A0 (l0.take ((ji2) : Int).toNat).length c0, .slice Ao18 y389.length co18] rfl (by (try simp only [List.map_toArray, List.map_cons, List.map_nil]); first | done | (rw [show (l0.take ((ji2) : Int).toNat).length = (ji2).toNat from (by rw [List.length_take]; have h_ : ((ji2) : Int) ≤ (l0.length : Int) := zd zS; omega)] <;> rfl) | (simp only [hji2]; rfl) | rfl | (simp only [List.length_drop, List.length_take]; rfl)) ?_; (with_reducible refine (bytes_Index.calls _ _ (l0.take ((ji2) : Int).toNat) _ _ y389 t392 _ ?side1 ?side2 ?side3 ?side4 ?side5 A5.out).mono ?_); (case side1 => exact ML.keep HML.out (zB1 HB GE387)); (case side2 => exact zs (Kd.C_below HR388.out HB.out)); (case side3 => exact HC388.out); (case side4 => exact zs (Kd.V_reads' HO391.out).2.2); (case side5 => exact (Kd.V_reads' HO391.out).2.1); rintro e w' ⟨rfl, ⟨nd, rfl⟩⟩; refine ⟨_, rfl, ?_⟩; (try (rw [drewN_self w16]; generalize hq_ : World.drewN w16 _ = w16; replace HO391 : Aside0 (Kd.V (Kd.int .u8) 5 w16 w.heap.size (fun k_ => k_ ≠ gb387) (.slice Ao18 y389.length co18) y389) := ⟨by rw [← hq_]; exact (by (with_reducible repeat (first | apply Kd.V_alloc | apply Kd.V_drewN | apply Kd.V_drew)); exact HO391.out)⟩; replace BK387 : Aside0 (w16.heap[gb387]? = some (.cells #[.string (⟨#[]⟩ : ByteArray), .string (⟨#[]⟩ : ByteArray), .string (⟨#[]⟩ : ByteArray), .string (⟨#[]⟩ : ByteArray), .slice none 0 0] 25 (0, 0))) := ⟨by rw [← hq_]; exact (zK BK387)⟩; replace HB : Aside0 (Below w.heap.size w w16) := ⟨by rw [← hq_]; exact (zB1 HB GE387)⟩; clear hq_)); obtain ⟨hcz19_0, hcz19_1, hcz19_2, hcz19_3, hcz19_4, hfz19_0, hfz19_1, hfz19_2, hfz19_3, hfz19_4⟩ := zC5 BK387))
    (try ((with_reducible refine wp_goto ?_); refine Or.inl ⟨rfl, ?_⟩; refine hK0.out _ _ ?_; go_wp2));(try simp only [Exit.two_ret, Exit.noGoto_ret]);refine bodyPost_ret (results_ctt rfl _ _ gb387 25 #[.string (⟨#[]⟩ : ByteArray), .string (⟨#[]⟩ : ByteArray), .string (⟨#[]⟩ : ByteArray), .string (⟨#[]⟩ : ByteArray), .slice none 0 0] (0, 0) _ rfl (zF BK387) Tryz.underlying25 rfl zQ) rfl ?_;exact ⟨_, by first | rfl | (simp [errW_none, errW_some] <;> rfl) | (simp only [← hji2]; first | rfl | (simp [errW_none, errW_some] <;> rfl)) | (simp [*, errW_none, errW_some] <;> rfl), by first | exact Kd.R_nil _ _ _ _ _ | exact Kd.N_nil _ _ _ _ _ | exact Kd.V_nil _ _ _ _ _ | exact Kd.Q_nil _ _ _ _ _ | exact Kd.S_nil _ _ _ _ _, zB1 HB GE387⟩
  rw [zn c6] at H;have c6b0 := zf c6;clear c6;by_cases c20 : 0 ≤ t392;rotate_left
  · rw [zn c20] at H;exact absurd H (by simp)
  rw [zp c20] at H;have c20b0 := zu c20;have c20b1 := zt c20;clear c20;by_cases c21 : t392 ≤ (l0.length : Int);rotate_left
  · rw [zn c21] at H;exact absurd H (by simp)
  rw [zp c21] at H;have c21b0 := zu c21;have c21b1 := zt c21;clear c21;obtain ⟨t394, A22, H⟩ := zA H;(try dsimp only at H);by_cases c23 : 0 < (t394.length : Int);rotate_left
  · rw [zn c23] at H;exact absurd H (by simp)
  rw [zp c23] at H;have c23b0 := zt c23;have c23b1 : decide (0 < t394.length) = true := zt zO;clear c23;obtain ⟨⟨t399, t400, t401⟩, A24, H⟩ := zA H;(try dsimp only at H);obtain ⟨⟨t402, t403, t404⟩, A25, H⟩ := zA H;(try dsimp only at H);obtain ⟨⟨t405, t406, t407, t408⟩, A26, H⟩ := zA H;(try dsimp only at H);have HC27 := zN H;clear H;go_enter Tryz.func57, Tryz.ntmps57;go_wp2_with (first | ((with_reducible refine gate_dst (N := 2) rfl ?_); refine zX #[.string (⟨#[]⟩ : ByteArray), .string (⟨#[]⟩ : ByteArray), .string (⟨#[]⟩ : ByteArray), .string (⟨#[]⟩ : ByteArray), .slice none 0 0] 25 rfl ?_; intro gb387 hg w28 hbox hb; have BK387 := zN hbox; have GW387 := zY w (zB HB) hg; have GE387 := zY w (zB HB) hg; replace HB := zk HB hb; clear hb hbox hg; obtain ⟨i029, hi029, _, hsz29, _⟩ := info_parts info5; obtain ⟨hcut29, hA29, hC29⟩ := print_take_of (P := Tryz.prog) (Value.int .u8) 0 46 5 .i64 Tryz.underlying46 hi029 hsz29 A0 c0 l0 (ji2) (zd zS) (zd zS) HC0.out; have HR388 := zN (Kd.C_of_reads (h1 := fun _ => rfl) (hA29 _ (Kd.reads_of_C HR0.out))); have HC388 := zN hC29; clear hA29 hC29 hi029 hsz29) | ((with_reducible refine gate_dst (N := 27) rfl ?_); refine Kd.V_lit (Kd.int .u8) _ 5 ?hg (N := 27) ?hd (xs := ([13, 10, 13, 10] : List Int)) (inner := [.int .u8 13, .int .u8 10, .int .u8 13, .int .u8 10]) (ok := fun k_ => w28.heap.size ≤ k_) (okp := fun _ => False) ?hr ?hp (fun _ hk => hk.elim) (zh _) (Below.refl _ _) (zh _) (by simp) ?_; (case hd => rfl); (case hg => rfl); (case hr => first | (go_simp; done) | (go_simp; rfl)); (case hp => exact (Reps.one (show Kd.M (Kd.int .u8) _ _ _ 13 [.int .u8 13] from rfl) (Reps.one (show Kd.M (Kd.int .u8) _ _ _ 10 [.int .u8 10] from rfl) (Reps.one (show Kd.M (Kd.int .u8) _ _ _ 13 [.int .u8 13] from rfl) (Reps.one (show Kd.M (Kd.int .u8) _ _ _ 10 [.int .u8 10] from rfl) (Reps.none _ _)))))); intro v390 w30 ho31 hb hg_ hnew_; clear hg_ hnew_; (first | rw [← Ny389.out] at ho31 | (simp only [Int.reduceToNat] at ho31; rw [← Ny389.out] at ho31)); have HO391 := zN (Kd.V_lower (Kd.V_mono (ok' := fun k_ => k_ ≠ gb387) ho31 (fun k_ hk_ => (Kd.freshB (g := gb387) (o := .cells #[.string (⟨#[]⟩ : ByteArray), .string (⟨#[]⟩ : ByteArray), .string (⟨#[]⟩ : ByteArray), .string (⟨#[]⟩ : ByteArray), .slice none 0 0] 25 (0, 0)) (zK BK387) k_ hk_))) (below_size (zB1 HB GE387))); replace BK387 := zj BK387 hb; replace HB := zk1 HB GE387 hb; clear hb ho31; obtain ⟨Ao32, co32, eo32⟩ := Kd.V_slice HO391.out; subst eo32) | ((with_reducible refine gate_callee (f := 83) rfl ?_); refine goesL_ (some 28) rfl rfl Tryz.func83 zQ rfl #[.slice A0 (l0.take ((ji2) : Int).toNat).length c0, .slice Ao32 y389.length co32] rfl (by (try simp only [List.map_toArray, List.map_cons, List.map_nil]); first | done | (rw [show (l0.take ((ji2) : Int).toNat).length = (ji2).toNat from (by rw [List.length_take]; have h_ : ((ji2) : Int) ≤ (l0.length : Int) := zd zS; omega)] <;> rfl) | (simp only [hji2]; rfl) | rfl | (simp only [List.length_drop, List.length_take]; rfl)) ?_; (with_reducible refine (bytes_Index.calls _ _ (l0.take ((ji2) : Int).toNat) _ _ y389 t392 _ ?side1 ?side2 ?side3 ?side4 ?side5 A5.out).mono ?_); (case side1 => exact ML.keep HML.out (zB1 HB GE387)); (case side2 => exact zs (Kd.C_below HR388.out HB.out)); (case side3 => exact HC388.out); (case side4 => exact zs (Kd.V_reads' HO391.out).2.2); (case side5 => exact (Kd.V_reads' HO391.out).2.1); rintro e w' ⟨rfl, ⟨nd, rfl⟩⟩; refine ⟨_, rfl, ?_⟩; (try (rw [drewN_self w30]; generalize hq_ : World.drewN w30 _ = w30; replace HO391 : Aside0 (Kd.V (Kd.int .u8) 5 w30 w.heap.size (fun k_ => k_ ≠ gb387) (.slice Ao32 y389.length co32) y389) := ⟨by rw [← hq_]; exact (by (with_reducible repeat (first | apply Kd.V_alloc | apply Kd.V_drewN | apply Kd.V_drew)); exact HO391.out)⟩; replace BK387 : Aside0 (w30.heap[gb387]? = some (.cells #[.string (⟨#[]⟩ : ByteArray), .string (⟨#[]⟩ : ByteArray), .string (⟨#[]⟩ : ByteArray), .string (⟨#[]⟩ : ByteArray), .slice none 0 0] 25 (0, 0))) := ⟨by rw [← hq_]; exact (zK BK387)⟩; replace HB : Aside0 (Below w.heap.size w w30) := ⟨by rw [← hq_]; exact (zB1 HB GE387)⟩; clear hq_)); obtain ⟨i033, hi033, _, hsz33, _⟩ := info_parts info5; obtain ⟨hcut33, hA33, hC33⟩ := print_take_of (P := Tryz.prog) (Value.int .u8) 0 46 5 .i64 Tryz.underlying46 hi033 hsz33 A0 c0 l0 t392 (zd zS) (zd zS) HC0.out; have HR393 := zN (Kd.C_of_reads (h1 := fun _ => rfl) (hA33 _ (Kd.reads_of_C HR0.out))); have HC393 := zN hC33; clear hA33 hC33 hi033 hsz33; have hcv34 := Kd.C_string (P := Tryz.prog) (A := A0) (c := c0) Tryz.underlying46 Tryz.underlying5 Tryz.underlying9 (Kd.C_below HR393.out HB.out); (try (have hcv34d := fun m_ : Nat => Kd.C_string (P := Tryz.prog) (A := A0) (c := c0) Tryz.underlying46 Tryz.underlying5 Tryz.underlying9 (Kd.C_drewN ((Kd.C_below HR393.out HB.out)) m_))); (try (have hcv34l := hcv34; rw [show (l0.take (t392 : Int).toNat).length = t392.toNat from (by rw [List.length_take]; have h_ : (t392 : Int) ≤ (l0.length : Int) := zd zS; omega)] at hcv34l))) | ((with_reducible refine gate_callee (f := 56) rfl ?_); refine zg (some 40) Tryz.func56 #[.string (strOfNums (l0.take (t392 : Int).toNat)), .string (⟨#[13, 10]⟩ : ByteArray)] ?_; (with_reducible refine (strings_Split.calls (strOfNums (l0.take (t392 : Int).toNat)) (⟨#[13, 10]⟩ : ByteArray) t394 _ ?side1 A22.out).mono ?_); (case side1 => exact ML.keep HML.out (zB1 HB GE387)); rintro e w35 ⟨v395, rfl, ho0, hb⟩; refine ⟨_, rfl, ?_⟩; replace HO391 := zN (Kd.V_elder' (by (with_reducible repeat (first | apply Kd.V_alloc | apply Kd.V_drewN | apply Kd.V_drew)); exact HO391.out) (Kd.R_base ho0) hb); have HO396 := zN (Kd.R_lower ho0 (below_size (zB1 HB GE387))); replace BK387 := zj BK387 hb; replace HB := zk1 HB GE387 hb; (try clear hb); (try clear hb2); (try clear hk); (try clear hi); (try clear ho0)) | ((with_reducible refine gate_dst (N := 7) rfl ?_); refine zX #[.string (⟨#[]⟩ : ByteArray), .string (⟨#[]⟩ : ByteArray), .string (⟨#[]⟩ : ByteArray), .string (⟨#[]⟩ : ByteArray), .slice none 0 0] 25 rfl ?_; intro gb397 hg w36 hbox hb; replace HO391 := zN (Kd.V_below (Kd.V_elderB (by (with_reducible repeat (first | apply Kd.V_alloc | apply Kd.V_drewN | apply Kd.V_drew)); exact HO391.out) gb397 (Nat.le_of_eq hg.symm)) hb); replace HO396 := zN (Kd.R_below (zR HO396) hb); have BK397 := zN hbox; have GW397 := zY w (zB1 HB GE387) hg; have GE397 := zY w (zB1 HB GE387) hg; replace HB := zk1 HB GE387 hb; have NB387_397 := zl BK387 hg; have NB397_387 := zl' BK387 hg; replace BK387 := zj BK387 hb; clear hb hbox hg; obtain ⟨Ao37, co37, eo37⟩ := Kd.R_slice HO396.out; subst eo37; have p398 : 0 ≤ (0 : Int) := zO; have q398 : 0 < (t394.length : Int) := zd zS; obtain ⟨ad398, e398, hx398_0⟩ := Kd.at_string (Kd.R_reads' HO396.out).2.2 0 p398 q398; cases e398; have qi398 : (0 < t394.length) = True := zu zO; (try rw [show ((0 : Int)).toNat = 0 from rfl] at hx398_0); (try rw [Addr.add_zero'] at hx398_0); replace p398 := zu p398; replace q398 := zu q398) | ((with_reducible refine gate_callee (f := 55) rfl ?_); refine zg (some 45) Tryz.func55 #[.string (rdOf ByteArray.empty t394 0), .string (⟨#[32]⟩ : ByteArray)] ?_; (with_reducible refine (strings_Cut.calls (rdOf ByteArray.empty t394 0) (⟨#[32]⟩ : ByteArray) t399 t400 t401 _ ?side1 A24.out).mono ?_); (case side1 => exact ML.keep HML.out (zB2 HB GE387 GE397)); rintro e w' ⟨rfl, ⟨nd, rfl⟩⟩; refine ⟨_, rfl, ?_⟩; (try (rw [drewN_self w36]; generalize hq_ : World.drewN w36 _ = w36; replace HO391 : Aside0 (Kd.V (Kd.int .u8) 5 w36 w.heap.size (fun k_ => some k_ ≠ (.slice (some ad398) t394.length co37 : Value).ownBlock ∧ k_ ≠ gb387 ∧ k_ ≠ gb397) (.slice Ao32 y389.length co32) y389) := ⟨by rw [← hq_]; exact (by (with_reducible repeat (first | apply Kd.V_alloc | apply Kd.V_drewN | apply Kd.V_drew)); exact Kd.V_mono HO391.out (fun _ hk => ⟨hk.1.2, ⟨hk.1.1, hk.2⟩⟩))⟩; replace HO396 : Aside0 (Kd.R Kd.string 9 w36 w.heap.size (fun _ => True) (.slice (some ad398) t394.length co37) t394) := ⟨by rw [← hq_]; exact (zR HO396)⟩; replace BK387 : Aside0 (w36.heap[gb387]? = some (.cells #[.string (⟨#[]⟩ : ByteArray), .string (⟨#[]⟩ : ByteArray), .string (⟨#[]⟩ : ByteArray), .string (⟨#[]⟩ : ByteArray), .slice none 0 0] 25 (0, 0))) := ⟨by rw [← hq_]; exact (zK BK387)⟩; replace BK397 : Aside0 (w36.heap[gb397]? = some (.cells #[.string (⟨#[]⟩ : ByteArray), .string (⟨#[]⟩ : ByteArray), .string (⟨#[]⟩ : ByteArray), .string (⟨#[]⟩ : ByteArray), .slice none 0 0] 25 (0, 0))) := ⟨by rw [← hq_]; exact (zK BK397)⟩; replace HB : Aside0 (Below w.heap.size w w36) := ⟨by rw [← hq_]; exact (zB2 HB GE387 GE397)⟩; clear hq_))) | ((with_reducible refine gate_callee (f := 55) rfl ?_); refine zg (some 51) Tryz.func55 #[.string t400, .string (⟨#[32]⟩ : ByteArray)] ?_; (with_reducible refine (strings_Cut.calls t400 (⟨#[32]⟩ : ByteArray) t402 t403 t404 _ ?side1 A25.out).mono ?_); (case side1 => exact ML.keep HML.out (zB2 HB GE387 GE397)); rintro e w' ⟨rfl, ⟨nd, rfl⟩⟩; refine ⟨_, rfl, ?_⟩; (try (rw [drewN_self w36]; generalize hq_ : World.drewN w36 _ = w36; replace HO391 : Aside0 (Kd.V (Kd.int .u8) 5 w36 w.heap.size (fun k_ => some k_ ≠ (.slice (some ad398) t394.length co37 : Value).ownBlock ∧ k_ ≠ gb387 ∧ k_ ≠ gb397) (.slice Ao32 y389.length co32) y389) := ⟨by rw [← hq_]; exact (by (with_reducible repeat (first | apply Kd.V_alloc | apply Kd.V_drewN | apply Kd.V_drew)); exact Kd.V_mono HO391.out (fun _ hk => ⟨hk.1.2, ⟨hk.1.1, hk.2⟩⟩))⟩; replace HO396 : Aside0 (Kd.R Kd.string 9 w36 w.heap.size (fun _ => True) (.slice (some ad398) t394.length co37) t394) := ⟨by rw [← hq_]; exact (zR HO396)⟩; replace BK387 : Aside0 (w36.heap[gb387]? = some (.cells #[.string (⟨#[]⟩ : ByteArray), .string (⟨#[]⟩ : ByteArray), .string (⟨#[]⟩ : ByteArray), .string (⟨#[]⟩ : ByteArray), .slice none 0 0] 25 (0, 0))) := ⟨by rw [← hq_]; exact (zK BK387)⟩; replace BK397 : Aside0 (w36.heap[gb397]? = some (.cells #[.string (⟨#[]⟩ : ByteArray), .string (⟨#[]⟩ : ByteArray), .string (⟨#[]⟩ : ByteArray), .string (⟨#[]⟩ : ByteArray), .slice none 0 0] 25 (0, 0))) := ⟨by rw [← hq_]; exact (zK BK397)⟩; replace HB : Aside0 (Below w.heap.size w w36) := ⟨by rw [← hq_]; exact (zB2 HB GE387 GE397)⟩; clear hq_))) | ((with_reducible refine gate_callee (f := 84) rfl ?_); refine zg (some 57) Tryz.func84 #[.string t402] ?_; (with_reducible refine (head_target.calls k t402 t405 t406 t407 t408 _ ?side1 A26.out).mono ?_); (case side1 => exact ML.keep HML.out (zB2 HB GE387 GE397)); rintro e w38 ⟨rfl, hb⟩; refine ⟨_, rfl, ?_⟩; replace HO391 := zN (Kd.V_below (by (with_reducible repeat (first | apply Kd.V_alloc | apply Kd.V_drewN | apply Kd.V_drew)); exact HO391.out) hb); replace HO396 := zN (Kd.R_below (zR HO396) hb); replace BK387 := zj BK387 hb; replace BK397 := zj BK397 hb; replace HB := zk2 HB GE387 GE397 hb; (try clear hb); (try clear hb2); (try clear hk); (try clear hi); have hnb39 := NB397_387.out; have hnc39 := NB387_397.out; obtain ⟨hcz40_0, hcz40_1, hcz40_2, hcz40_3, hcz40_4, hfz40_0, hfz40_1, hfz40_2, hfz40_3, hfz40_4⟩ := zC5 BK397))
  refine Scope.wp_scope_two (by rfl) (by rfl) (fun K0 hK0_ K1 hK1_ => ?_);have hK0 := zN hK0_;have hK1 := zN hK1_;clear hK0_ hK1_;go_upto_region 13 with (first | ((with_reducible refine gate_dst (N := 2) rfl ?_); refine zX #[.string (⟨#[]⟩ : ByteArray), .string (⟨#[]⟩ : ByteArray), .string (⟨#[]⟩ : ByteArray), .string (⟨#[]⟩ : ByteArray), .slice none 0 0] 25 rfl ?_; intro gb387 hg w28 hbox hb; have BK387 := zN hbox; have GW387 := zY w (zB HB) hg; have GE387 := zY w (zB HB) hg; replace HB := zk HB hb; clear hb hbox hg; obtain ⟨i029, hi029, _, hsz29, _⟩ := info_parts info5; obtain ⟨hcut29, hA29, hC29⟩ := print_take_of (P := Tryz.prog) (Value.int .u8) 0 46 5 .i64 Tryz.underlying46 hi029 hsz29 A0 c0 l0 (ji2) (zd zS) (zd zS) HC0.out; have HR388 := zN (Kd.C_of_reads (h1 := fun _ => rfl) (hA29 _ (Kd.reads_of_C HR0.out))); have HC388 := zN hC29; clear hA29 hC29 hi029 hsz29) | ((with_reducible refine gate_dst (N := 27) rfl ?_); refine Kd.V_lit (Kd.int .u8) _ 5 ?hg (N := 27) ?hd (xs := ([13, 10, 13, 10] : List Int)) (inner := [.int .u8 13, .int .u8 10, .int .u8 13, .int .u8 10]) (ok := fun k_ => w28.heap.size ≤ k_) (okp := fun _ => False) ?hr ?hp (fun _ hk => hk.elim) (zh _) (Below.refl _ _) (zh _) (by simp) ?_; (case hd => rfl); (case hg => rfl); (case hr => first | (go_simp; done) | (go_simp; rfl)); (case hp => exact (Reps.one (show Kd.M (Kd.int .u8) _ _ _ 13 [.int .u8 13] from rfl) (Reps.one (show Kd.M (Kd.int .u8) _ _ _ 10 [.int .u8 10] from rfl) (Reps.one (show Kd.M (Kd.int .u8) _ _ _ 13 [.int .u8 13] from rfl) (Reps.one (show Kd.M (Kd.int .u8) _ _ _ 10 [.int .u8 10] from rfl) (Reps.none _ _)))))); intro v390 w30 ho31 hb hg_ hnew_; clear hg_ hnew_; (first | rw [← Ny389.out] at ho31 | (simp only [Int.reduceToNat] at ho31; rw [← Ny389.out] at ho31)); have HO391 := zN (Kd.V_lower (Kd.V_mono (ok' := fun k_ => k_ ≠ gb387) ho31 (fun k_ hk_ => (Kd.freshB (g := gb387) (o := .cells #[.string (⟨#[]⟩ : ByteArray), .string (⟨#[]⟩ : ByteArray), .string (⟨#[]⟩ : ByteArray), .string (⟨#[]⟩ : ByteArray), .slice none 0 0] 25 (0, 0)) (zK BK387) k_ hk_))) (below_size (zB1 HB GE387))); replace BK387 := zj BK387 hb; replace HB := zk1 HB GE387 hb; clear hb ho31; obtain ⟨Ao32, co32, eo32⟩ := Kd.V_slice HO391.out; subst eo32) | ((with_reducible refine gate_callee (f := 83) rfl ?_); refine goesL_ (some 28) rfl rfl Tryz.func83 zQ rfl #[.slice A0 (l0.take ((ji2) : Int).toNat).length c0, .slice Ao32 y389.length co32] rfl (by (try simp only [List.map_toArray, List.map_cons, List.map_nil]); first | done | (rw [show (l0.take ((ji2) : Int).toNat).length = (ji2).toNat from (by rw [List.length_take]; have h_ : ((ji2) : Int) ≤ (l0.length : Int) := zd zS; omega)] <;> rfl) | (simp only [hji2]; rfl) | rfl | (simp only [List.length_drop, List.length_take]; rfl)) ?_; (with_reducible refine (bytes_Index.calls _ _ (l0.take ((ji2) : Int).toNat) _ _ y389 t392 _ ?side1 ?side2 ?side3 ?side4 ?side5 A5.out).mono ?_); (case side1 => exact ML.keep HML.out (zB1 HB GE387)); (case side2 => exact zs (Kd.C_below HR388.out HB.out)); (case side3 => exact HC388.out); (case side4 => exact zs (Kd.V_reads' HO391.out).2.2); (case side5 => exact (Kd.V_reads' HO391.out).2.1); rintro e w' ⟨rfl, ⟨nd, rfl⟩⟩; refine ⟨_, rfl, ?_⟩; (try (rw [drewN_self w30]; generalize hq_ : World.drewN w30 _ = w30; replace HO391 : Aside0 (Kd.V (Kd.int .u8) 5 w30 w.heap.size (fun k_ => k_ ≠ gb387) (.slice Ao32 y389.length co32) y389) := ⟨by rw [← hq_]; exact (by (with_reducible repeat (first | apply Kd.V_alloc | apply Kd.V_drewN | apply Kd.V_drew)); exact HO391.out)⟩; replace BK387 : Aside0 (w30.heap[gb387]? = some (.cells #[.string (⟨#[]⟩ : ByteArray), .string (⟨#[]⟩ : ByteArray), .string (⟨#[]⟩ : ByteArray), .string (⟨#[]⟩ : ByteArray), .slice none 0 0] 25 (0, 0))) := ⟨by rw [← hq_]; exact (zK BK387)⟩; replace HB : Aside0 (Below w.heap.size w w30) := ⟨by rw [← hq_]; exact (zB1 HB GE387)⟩; clear hq_)); obtain ⟨i033, hi033, _, hsz33, _⟩ := info_parts info5; obtain ⟨hcut33, hA33, hC33⟩ := print_take_of (P := Tryz.prog) (Value.int .u8) 0 46 5 .i64 Tryz.underlying46 hi033 hsz33 A0 c0 l0 t392 (zd zS) (zd zS) HC0.out; have HR393 := zN (Kd.C_of_reads (h1 := fun _ => rfl) (hA33 _ (Kd.reads_of_C HR0.out))); have HC393 := zN hC33; clear hA33 hC33 hi033 hsz33; have hcv34 := Kd.C_string (P := Tryz.prog) (A := A0) (c := c0) Tryz.underlying46 Tryz.underlying5 Tryz.underlying9 (Kd.C_below HR393.out HB.out); (try (have hcv34d := fun m_ : Nat => Kd.C_string (P := Tryz.prog) (A := A0) (c := c0) Tryz.underlying46 Tryz.underlying5 Tryz.underlying9 (Kd.C_drewN ((Kd.C_below HR393.out HB.out)) m_))); (try (have hcv34l := hcv34; rw [show (l0.take (t392 : Int).toNat).length = t392.toNat from (by rw [List.length_take]; have h_ : (t392 : Int) ≤ (l0.length : Int) := zd zS; omega)] at hcv34l))) | ((with_reducible refine gate_callee (f := 56) rfl ?_); refine zg (some 40) Tryz.func56 #[.string (strOfNums (l0.take (t392 : Int).toNat)), .string (⟨#[13, 10]⟩ : ByteArray)] ?_; (with_reducible refine (strings_Split.calls (strOfNums (l0.take (t392 : Int).toNat)) (⟨#[13, 10]⟩ : ByteArray) t394 _ ?side1 A22.out).mono ?_); (case side1 => exact ML.keep HML.out (zB1 HB GE387)); rintro e w35 ⟨v395, rfl, ho0, hb⟩; refine ⟨_, rfl, ?_⟩; replace HO391 := zN (Kd.V_elder' (by (with_reducible repeat (first | apply Kd.V_alloc | apply Kd.V_drewN | apply Kd.V_drew)); exact HO391.out) (Kd.R_base ho0) hb); have HO396 := zN (Kd.R_lower ho0 (below_size (zB1 HB GE387))); replace BK387 := zj BK387 hb; replace HB := zk1 HB GE387 hb; (try clear hb); (try clear hb2); (try clear hk); (try clear hi); (try clear ho0)) | ((with_reducible refine gate_dst (N := 7) rfl ?_); refine zX #[.string (⟨#[]⟩ : ByteArray), .string (⟨#[]⟩ : ByteArray), .string (⟨#[]⟩ : ByteArray), .string (⟨#[]⟩ : ByteArray), .slice none 0 0] 25 rfl ?_; intro gb397 hg w36 hbox hb; replace HO391 := zN (Kd.V_below (Kd.V_elderB (by (with_reducible repeat (first | apply Kd.V_alloc | apply Kd.V_drewN | apply Kd.V_drew)); exact HO391.out) gb397 (Nat.le_of_eq hg.symm)) hb); replace HO396 := zN (Kd.R_below (zR HO396) hb); have BK397 := zN hbox; have GW397 := zY w (zB1 HB GE387) hg; have GE397 := zY w (zB1 HB GE387) hg; replace HB := zk1 HB GE387 hb; have NB387_397 := zl BK387 hg; have NB397_387 := zl' BK387 hg; replace BK387 := zj BK387 hb; clear hb hbox hg; obtain ⟨Ao37, co37, eo37⟩ := Kd.R_slice HO396.out; subst eo37; have p398 : 0 ≤ (0 : Int) := zO; have q398 : 0 < (t394.length : Int) := zd zS; obtain ⟨ad398, e398, hx398_0⟩ := Kd.at_string (Kd.R_reads' HO396.out).2.2 0 p398 q398; cases e398; have qi398 : (0 < t394.length) = True := zu zO; (try rw [show ((0 : Int)).toNat = 0 from rfl] at hx398_0); (try rw [Addr.add_zero'] at hx398_0); replace p398 := zu p398; replace q398 := zu q398) | ((with_reducible refine gate_callee (f := 55) rfl ?_); refine zg (some 45) Tryz.func55 #[.string (rdOf ByteArray.empty t394 0), .string (⟨#[32]⟩ : ByteArray)] ?_; (with_reducible refine (strings_Cut.calls (rdOf ByteArray.empty t394 0) (⟨#[32]⟩ : ByteArray) t399 t400 t401 _ ?side1 A24.out).mono ?_); (case side1 => exact ML.keep HML.out (zB2 HB GE387 GE397)); rintro e w' ⟨rfl, ⟨nd, rfl⟩⟩; refine ⟨_, rfl, ?_⟩; (try (rw [drewN_self w36]; generalize hq_ : World.drewN w36 _ = w36; replace HO391 : Aside0 (Kd.V (Kd.int .u8) 5 w36 w.heap.size (fun k_ => some k_ ≠ (.slice (some ad398) t394.length co37 : Value).ownBlock ∧ k_ ≠ gb387 ∧ k_ ≠ gb397) (.slice Ao32 y389.length co32) y389) := ⟨by rw [← hq_]; exact (by (with_reducible repeat (first | apply Kd.V_alloc | apply Kd.V_drewN | apply Kd.V_drew)); exact Kd.V_mono HO391.out (fun _ hk => ⟨hk.1.2, ⟨hk.1.1, hk.2⟩⟩))⟩; replace HO396 : Aside0 (Kd.R Kd.string 9 w36 w.heap.size (fun _ => True) (.slice (some ad398) t394.length co37) t394) := ⟨by rw [← hq_]; exact (zR HO396)⟩; replace BK387 : Aside0 (w36.heap[gb387]? = some (.cells #[.string (⟨#[]⟩ : ByteArray), .string (⟨#[]⟩ : ByteArray), .string (⟨#[]⟩ : ByteArray), .string (⟨#[]⟩ : ByteArray), .slice none 0 0] 25 (0, 0))) := ⟨by rw [← hq_]; exact (zK BK387)⟩; replace BK397 : Aside0 (w36.heap[gb397]? = some (.cells #[.string (⟨#[]⟩ : ByteArray), .string (⟨#[]⟩ : ByteArray), .string (⟨#[]⟩ : ByteArray), .string (⟨#[]⟩ : ByteArray), .slice none 0 0] 25 (0, 0))) := ⟨by rw [← hq_]; exact (zK BK397)⟩; replace HB : Aside0 (Below w.heap.size w w36) := ⟨by rw [← hq_]; exact (zB2 HB GE387 GE397)⟩; clear hq_))) | ((with_reducible refine gate_callee (f := 55) rfl ?_); refine zg (some 51) Tryz.func55 #[.string t400, .string (⟨#[32]⟩ : ByteArray)] ?_; (with_reducible refine (strings_Cut.calls t400 (⟨#[32]⟩ : ByteArray) t402 t403 t404 _ ?side1 A25.out).mono ?_); (case side1 => exact ML.keep HML.out (zB2 HB GE387 GE397)); rintro e w' ⟨rfl, ⟨nd, rfl⟩⟩; refine ⟨_, rfl, ?_⟩; (try (rw [drewN_self w36]; generalize hq_ : World.drewN w36 _ = w36; replace HO391 : Aside0 (Kd.V (Kd.int .u8) 5 w36 w.heap.size (fun k_ => some k_ ≠ (.slice (some ad398) t394.length co37 : Value).ownBlock ∧ k_ ≠ gb387 ∧ k_ ≠ gb397) (.slice Ao32 y389.length co32) y389) := ⟨by rw [← hq_]; exact (by (with_reducible repeat (first | apply Kd.V_alloc | apply Kd.V_drewN | apply Kd.V_drew)); exact Kd.V_mono HO391.out (fun _ hk => ⟨hk.1.2, ⟨hk.1.1, hk.2⟩⟩))⟩; replace HO396 : Aside0 (Kd.R Kd.string 9 w36 w.heap.size (fun _ => True) (.slice (some ad398) t394.length co37) t394) := ⟨by rw [← hq_]; exact (zR HO396)⟩; replace BK387 : Aside0 (w36.heap[gb387]? = some (.cells #[.string (⟨#[]⟩ : ByteArray), .string (⟨#[]⟩ : ByteArray), .string (⟨#[]⟩ : ByteArray), .string (⟨#[]⟩ : ByteArray), .slice none 0 0] 25 (0, 0))) := ⟨by rw [← hq_]; exact (zK BK387)⟩; replace BK397 : Aside0 (w36.heap[gb397]? = some (.cells #[.string (⟨#[]⟩ : ByteArray), .string (⟨#[]⟩ : ByteArray), .string (⟨#[]⟩ : ByteArray), .string (⟨#[]⟩ : ByteArray), .slice none 0 0] 25 (0, 0))) := ⟨by rw [← hq_]; exact (zK BK397)⟩; replace HB : Aside0 (Below w.heap.size w w36) := ⟨by rw [← hq_]; exact (zB2 HB GE387 GE397)⟩; clear hq_))) | ((with_reducible refine gate_callee (f := 84) rfl ?_); refine zg (some 57) Tryz.func84 #[.string t402] ?_; (with_reducible refine (head_target.calls k t402 t405 t406 t407 t408 _ ?side1 A26.out).mono ?_); (case side1 => exact ML.keep HML.out (zB2 HB GE387 GE397)); rintro e w38 ⟨rfl, hb⟩; refine ⟨_, rfl, ?_⟩; replace HO391 := zN (Kd.V_below (by (with_reducible repeat (first | apply Kd.V_alloc | apply Kd.V_drewN | apply Kd.V_drew)); exact HO391.out) hb); replace HO396 := zN (Kd.R_below (zR HO396) hb); replace BK387 := zj BK387 hb; replace BK397 := zj BK397 hb; replace HB := zk2 HB GE387 GE397 hb; (try clear hb); (try clear hb2); (try clear hk); (try clear hi); have hnb39 := NB397_387.out; have hnc39 := NB387_397.out; obtain ⟨hcz40_0, hcz40_1, hcz40_2, hcz40_3, hcz40_4, hfz40_0, hfz40_1, hfz40_2, hfz40_3, hfz40_4⟩ := zC5 BK397))
  (try simp only [Act.put, List.setIfInBounds_toArray, List.set_cons_zero, List.set_cons_succ]);go_cut [75] (fun v75 wc => ∃ (kq : Nat) (x75_26 : Bool), v75 = .bool x75_26 ∧ Aside0 (head_Parse.j0 kq t392 t394 0 1 (⟨#[]⟩ : ByteArray) t399 x75_26 (⟨#[]⟩ : ByteArray) t405 t406 t407 = some (r1, r2, r3, r4, r5, r6, r7)) ∧ Aside0 (kq ≤ k) ∧ Aside0 (Kd.R Kd.string 9 wc w.heap.size (fun _ => True) (.slice (some ad398) t394.length co37) t394) ∧ Aside0 (wc.heap[gb387]? = some (.cells #[.string (⟨#[]⟩ : ByteArray), .string (⟨#[]⟩ : ByteArray), .string (⟨#[]⟩ : ByteArray), .string (⟨#[]⟩ : ByteArray), (.slice none 0 0)] 25 (0, 0))) ∧ Aside0 (wc.heap[gb397]? = some (.cells #[.string (⟨#[]⟩ : ByteArray), .string t405, .string t406, .string t407, (.slice none 0 0)] 25 (0, 0))) ∧ Aside0 (Below w.heap.size w wc))
  case first =>
    have H := HC27.out;clear HC27;by_cases c41 : t408 = true;rotate_left
    · replace c41 := zq.mpr c41;subst c41;have H1 := H; rw [zn (show ¬ (false = true) by decide)] at H1;clear H;have H := H1;clear H1;have H' := zN H;clear H;go_wp2;go_meet
      case rel => exact ⟨_, (true), zI, H', ⟨by first | omega | exact zh _⟩, ⟨by (with_reducible repeat (first | apply Kd.R_alloc | apply Kd.R_drewN | apply Kd.R_drew)); exact Kd.R_mono (Kd.R_far (p := ⟨gb397, 3, none⟩) (Kd.R_far (p := ⟨gb397, 2, none⟩) (Kd.R_far (p := ⟨gb397, 1, none⟩) (Kd.R_types HO396.out BK397.out (by decide)) (fun _ hk => hk.2) (.string t405)) (fun _ hk => hk.2) (.string t406)) (fun _ hk => hk.2) (.string t407)) (fun _ hk => trivial)⟩, ⟨zF1 BK387 NB387_397⟩, ⟨zF BK397⟩, ⟨zB2 HB GE387 GE397⟩⟩
    subst c41;have H1 := H; rw [zp rfl] at H1;clear H;have H := H1;clear H1;obtain ⟨t409, A42, H⟩ := zA H;(try dsimp only at H);by_cases c43 : t409 = true
    · subst c43;have H1 := H; rw [zp rfl] at H1;clear H;have H := H1;clear H1;have H' := zN H;clear H;go_wp2_with (first | (go_at_call 22; (with_reducible refine (head_token.calls k t399 true _ A42.out).mono ?_); rintro e w' ⟨rfl, ⟨nd, rfl⟩⟩));go_meet
      case rel => exact ⟨_, ((t403.toList != ([72, 84, 84, 80, 47, 49, 46, 49] : List UInt8))), zI, H', ⟨by first | omega | exact zh _⟩, ⟨by (with_reducible repeat (first | apply Kd.R_alloc | apply Kd.R_drewN | apply Kd.R_drew)); exact Kd.R_mono (Kd.R_far (p := ⟨gb397, 3, none⟩) (Kd.R_far (p := ⟨gb397, 2, none⟩) (Kd.R_far (p := ⟨gb397, 1, none⟩) (Kd.R_types HO396.out BK397.out (by decide)) (fun _ hk => hk.2) (.string t405)) (fun _ hk => hk.2) (.string t406)) (fun _ hk => hk.2) (.string t407)) (fun _ hk => trivial)⟩, ⟨zF1 BK387 NB387_397⟩, ⟨zF BK397⟩, ⟨zB2 HB GE387 GE397⟩⟩
    replace c43 := zq.mpr c43;subst c43;have H1 := H; rw [zn (show ¬ (false = true) by decide)] at H1;clear H;have H := H1;clear H1;have H' := zN H;clear H;go_wp2_with (first | (go_at_call 22; (with_reducible refine (head_token.calls k t399 false _ A42.out).mono ?_); rintro e w' ⟨rfl, ⟨nd, rfl⟩⟩));go_meet
    case rel => exact ⟨_, (true), zI, H', ⟨by first | omega | exact zh _⟩, ⟨by (with_reducible repeat (first | apply Kd.R_alloc | apply Kd.R_drewN | apply Kd.R_drew)); exact Kd.R_mono (Kd.R_far (p := ⟨gb397, 3, none⟩) (Kd.R_far (p := ⟨gb397, 2, none⟩) (Kd.R_far (p := ⟨gb397, 1, none⟩) (Kd.R_types HO396.out BK397.out (by decide)) (fun _ hk => hk.2) (.string t405)) (fun _ hk => hk.2) (.string t406)) (fun _ hk => hk.2) (.string t407)) (fun _ hk => trivial)⟩, ⟨zF1 BK387 NB387_397⟩, ⟨zF BK397⟩, ⟨zB2 HB GE387 GE397⟩⟩
  case rest =>
    clear HC27
    try clear c2
    try clear p2
    try clear c3
    try clear c3b0
    try clear c3b1
    try clear p3
    try clear q3
    try clear hx3
    try clear hcv3
    try clear qi3
    try clear c4
    try clear c4b0
    try clear c4b1
    try clear c5
    try clear c6
    try clear c6b0
    try clear c7
    try clear c7b0
    try clear c7b1
    try clear c8
    try clear c20
    try clear c20b0
    try clear c20b1
    try clear c21
    try clear c21b0
    try clear c21b1
    try clear c23
    try clear c23b0
    try clear c23b1
    try clear hcv34
    try clear c39
    try clear p39
    try clear q39
    try clear hx39
    try clear qi39
    try clear c41
    try clear c43
    try clear hcz13_0
    try clear hcz13_1
    try clear hcz13_2
    try clear hcz13_3
    try clear hcz13_4
    try clear hcz19_0
    try clear hcz19_1
    try clear hcz19_2
    try clear hcz19_3
    try clear hcz19_4
    try clear hcz40_0
    try clear hcz40_1
    try clear hcz40_2
    try clear hcz40_3
    try clear hcz40_4
    try clear hfz13_0
    try clear hfz13_1
    try clear hfz13_2
    try clear hfz13_3
    try clear hfz13_4
    try clear hfz19_0
    try clear hfz19_1
    try clear hfz19_2
    try clear hfz19_3
    try clear hfz19_4
    try clear hfz40_0
    try clear hfz40_1
    try clear hfz40_2
    try clear hfz40_3
    try clear hfz40_4
    try clear hx398_0
    try clear p398
    try clear q398
    obtain ⟨kq, x75_26, rfl, HA, HJ26, HO_6, BK387, BK397, HB⟩ := hcut;cases kq with
    | zero => exact absurd HA.out (by simp [head_Parse.j0])
    | succ kj26 =>
      have H := HA.out;clear HA;simp only [head_Parse.j0] at H;by_cases c44 : x75_26 = true
      · subst c44;have H1 := H; rw [zp rfl] at H1;clear H;have H := H1;clear H1;simp only [Option.some.injEq, Prod.mk.injEq] at H;obtain ⟨rfl, rfl, rfl, rfl, rfl, rfl, rfl⟩ := H;have hnb45 := NB387_397.out;have hnc45 := NB397_387.out;obtain ⟨hcz46_0, hcz46_1, hcz46_2, hcz46_3, hcz46_4, hfz46_0, hfz46_1, hfz46_2, hfz46_3, hfz46_4⟩ := zC5 BK387;go_wp2;(try ((with_reducible refine wp_goto ?_); refine Or.inl ⟨rfl, ?_⟩; refine hK0.out _ _ ?_; go_wp2));(try simp only [Exit.two_ret, Exit.noGoto_ret]);refine bodyPost_ret (results_ctt rfl _ _ gb387 25 #[.string (⟨#[]⟩ : ByteArray), .string (⟨#[]⟩ : ByteArray), .string (⟨#[]⟩ : ByteArray), .string (⟨#[]⟩ : ByteArray), .slice none 0 0] (0, 0) _ rfl (zF BK387) Tryz.underlying25 rfl zQ) rfl ?_;exact ⟨_, by first | rfl | (simp [errW_none, errW_some] <;> rfl) | (simp only [← hji2]; first | rfl | (simp [errW_none, errW_some] <;> rfl)) | (simp [*, errW_none, errW_some] <;> rfl), by first | exact Kd.R_nil _ _ _ _ _ | exact Kd.N_nil _ _ _ _ _ | exact Kd.V_nil _ _ _ _ _ | exact Kd.Q_nil _ _ _ _ _ | exact Kd.S_nil _ _ _ _ _, zB2 HB GE387 GE397⟩
      replace c44 := zq.mpr c44;subst c44;have H1 := H; rw [zn (show ¬ (false = true) by decide)] at H1;clear H;have H := H1;clear H1;have H' := zN H;clear H;have hnb47 := NB397_387.out;have hnc47 := NB387_397.out;obtain ⟨hcz48_0, hcz48_1, hcz48_2, hcz48_3, hcz48_4, hfz48_0, hfz48_1, hfz48_2, hfz48_3, hfz48_4⟩ := zC5 BK397;go_wp2;go_step3;go_step;go_step;refine Scope.LW.enter hK1.out ?_;refine head_Parse.loop1 kj26 (fun kq v9 v10 v11 w' => ∃ (x9_2 : Int) (x10_2 : Int) (x11_2 : ByteArray) (x388000_2 : ByteArray) (x388001_2 : ByteArray) (x388002_2 : ByteArray) (x388003_2 : ByteArray) (x398004_2 : List (S88)) (u398004 : Value), v9 = .int .i64 x9_2 ∧ v10 = .int .i64 x10_2 ∧ v11 = .string x11_2 ∧ Aside0 (head_Parse.l0 kq t392 t394 x9_2 x10_2 x11_2 t399 t405 t406 t407 x398004_2 = some (r1, r2, r3, r4, r5, r6, r7)) ∧ Aside0 (kq ≤ kj26) ∧ Aside0 (Kd.R Kd.string 9 w' w.heap.size (fun _ => True) (.slice (some ad398) t394.length co37) t394) ∧ Aside0 (Kd.R k88 88 w' w.heap.size (fun _ => True) u398004 x398004_2) ∧ Aside0 (w'.heap[gb387]? = some (.cells #[.string x388000_2, .string x388001_2, .string x388002_2, .string x388003_2, (.slice none 0 0)] 25 (0, 0))) ∧ Aside0 (w'.heap[gb397]? = some (.cells #[.string t399, .string t405, .string t406, .string t407, u398004] 25 (0, 0))) ∧ Aside0 (Below w.heap.size w w')) ?atStart ?round
      case atStart => exact ⟨(0), (1), ((⟨#[]⟩ : ByteArray)), ((⟨#[]⟩ : ByteArray)), ((⟨#[]⟩ : ByteArray)), ((⟨#[]⟩ : ByteArray)), ((⟨#[]⟩ : ByteArray)), (([] : List (S88))), (.slice none 0 0), zI, zI, zI, H', ⟨zh _⟩, ⟨by (with_reducible repeat (first | apply Kd.R_alloc | apply Kd.R_drewN | apply Kd.R_drew)); exact Kd.R_mono (Kd.R_far (p := ⟨gb397, 0, none⟩) (Kd.R_types HO_6.out BK397.out (by decide)) (fun _ hk => hk.2) (.string t399)) (fun _ hk => trivial)⟩, ⟨by first | exact Kd.R_nil _ _ _ _ _ | exact Kd.N_nil _ _ _ _ _ | exact Kd.V_nil _ _ _ _ _ | exact Kd.Q_nil _ _ _ _ _ | exact Kd.S_nil _ _ _ _ _⟩, ⟨zF1 BK387 NB387_397⟩, ⟨zF BK397⟩, ⟨zB2 HB GE387 GE397⟩⟩
      case round =>
        intro gk wr u9 u10 u11 u18 u19 u20 u78 u79 u80 u81 u82 u83 u84 u85 u86 u87 u88 u89 u90 u91 u92 u93 u94 u95 u96 u97 u98 u99 u100 u101 u102 u103 u104 u105 u106 u107 u108 u109 u110 u111 u112 u113 u114 u115 u116 u117 u118 u119 u120 u121 u122 u123 u124 u125 u126 u127 hrel _ _ _ _;clear H'
        try clear c2
        try clear p2
        try clear c3
        try clear c3b0
        try clear c3b1
        try clear p3
        try clear q3
        try clear hx3
        try clear hcv3
        try clear qi3
        try clear c4
        try clear c4b0
        try clear c4b1
        try clear c5
        try clear c6
        try clear c6b0
        try clear c7
        try clear c7b0
        try clear c7b1
        try clear c8
        try clear c20
        try clear c20b0
        try clear c20b1
        try clear c21
        try clear c21b0
        try clear c21b1
        try clear c23
        try clear c23b0
        try clear c23b1
        try clear hcv34
        try clear c39
        try clear p39
        try clear q39
        try clear hx39
        try clear qi39
        try clear c41
        try clear c43
        try clear c44
        try clear c45
        try clear c47
        try clear hcz13_0
        try clear hcz13_1
        try clear hcz13_2
        try clear hcz13_3
        try clear hcz13_4
        try clear hcz19_0
        try clear hcz19_1
        try clear hcz19_2
        try clear hcz19_3
        try clear hcz19_4
        try clear hcz40_0
        try clear hcz40_1
        try clear hcz40_2
        try clear hcz40_3
        try clear hcz40_4
        try clear hcz46_0
        try clear hcz46_1
        try clear hcz46_2
        try clear hcz46_3
        try clear hcz46_4
        try clear hcz48_0
        try clear hcz48_1
        try clear hcz48_2
        try clear hcz48_3
        try clear hcz48_4
        try clear hfz13_0
        try clear hfz13_1
        try clear hfz13_2
        try clear hfz13_3
        try clear hfz13_4
        try clear hfz19_0
        try clear hfz19_1
        try clear hfz19_2
        try clear hfz19_3
        try clear hfz19_4
        try clear hfz40_0
        try clear hfz40_1
        try clear hfz40_2
        try clear hfz40_3
        try clear hfz40_4
        try clear hfz46_0
        try clear hfz46_1
        try clear hfz46_2
        try clear hfz46_3
        try clear hfz46_4
        try clear hfz48_0
        try clear hfz48_1
        try clear hfz48_2
        try clear hfz48_3
        try clear hfz48_4
        try clear hx398_0
        try clear p2
        try clear p3
        try clear p39
        try clear p398
        try clear q3
        try clear q39
        try clear q398
        obtain ⟨x9_2, x10_2, x11_2, x388000_2, x388001_2, x388002_2, x388003_2, x398004_2, u398004, rfl, rfl, rfl, HA, HK2, HO_6, HO_398004, BK387, BK397, HB⟩ := hrel;cases gk with
        | zero => exact absurd HA.out (by simp [head_Parse.l0])
        | succ k2 =>
          have H := HA.out;clear HA;simp only [head_Parse.l0] at H;by_cases c49 : x10_2 < (t394.length : Int);rotate_left
          · rw [zn c49] at H;have c49b0 := zf c49;clear c49;by_cases c90 : x9_2 = 1;rotate_left
            · rw [zn c90] at H;have c90b0 := zb.mpr c90;have c90b1 := bne_iff_ne.mpr c90;simp only [Option.some.injEq, Prod.mk.injEq] at H;obtain ⟨rfl, rfl, rfl, rfl, rfl, rfl, rfl⟩ := H;have hnb105 := NB387_397.out;have hnc105 := NB397_387.out;obtain ⟨hcz106_0, hcz106_1, hcz106_2, hcz106_3, hcz106_4, hfz106_0, hfz106_1, hfz106_2, hfz106_3, hfz106_4⟩ := zC5 BK387;go_wp2;(try ((with_reducible refine wp_goto ?_); refine Or.inl ⟨rfl, ?_⟩; refine hK0.out _ _ ?_; go_wp2));(try simp only [Exit.two_ret, Exit.noGoto_ret]);refine bodyPost_ret (results_ctt rfl _ _ gb387 25 #[.string (⟨#[]⟩ : ByteArray), .string (⟨#[]⟩ : ByteArray), .string (⟨#[]⟩ : ByteArray), .string (⟨#[]⟩ : ByteArray), .slice none 0 0] (0, 0) _ rfl (zF BK387) Tryz.underlying25 rfl zQ) rfl ?_;exact ⟨_, by first | rfl | (simp [errW_none, errW_some] <;> rfl) | (simp only [← hji2]; first | rfl | (simp [errW_none, errW_some] <;> rfl)) | (simp [*, errW_none, errW_some] <;> rfl), by first | exact Kd.R_nil _ _ _ _ _ | exact Kd.N_nil _ _ _ _ _ | exact Kd.V_nil _ _ _ _ _ | exact Kd.Q_nil _ _ _ _ _ | exact Kd.S_nil _ _ _ _ _, zB2 HB GE387 GE397⟩
            rw [zp c90] at H;have c90b0 := beq_iff_eq.mpr c90;have c90b1 := zc.mpr c90;clear c90;by_cases c91 : (x398004_2.length : Int) > 32
            · rw [zp c91] at H;have c91b0 : decide (32 < (x398004_2.length : Int)) = true := zt c91;have c91b1 : decide (32 < x398004_2.length) = true := zt zO;clear c91;simp only [Option.some.injEq, Prod.mk.injEq] at H;obtain ⟨rfl, rfl, rfl, rfl, rfl, rfl, rfl⟩ := H;have hnb92 := NB397_387.out;have hnc92 := NB387_397.out;obtain ⟨hcz93_0, hcz93_1, hcz93_2, hcz93_3, hcz93_4, hfz93_0, hfz93_1, hfz93_2, hfz93_3, hfz93_4⟩ := zC5 BK397;obtain ⟨Ao94, co94, eo94⟩ := Kd.R_slice HO_398004.out;subst eo94;obtain ⟨hcz95_0, hcz95_1, hcz95_2, hcz95_3, hcz95_4, hfz95_0, hfz95_1, hfz95_2, hfz95_3, hfz95_4⟩ := zC5 BK387;go_wp2;(try ((with_reducible refine wp_goto ?_); refine Or.inl ⟨rfl, ?_⟩; refine hK0.out _ _ ?_; go_wp2));(try simp only [Exit.two_ret, Exit.noGoto_ret]);refine bodyPost_ret (results_ctt rfl _ _ gb387 25 #[.string (⟨#[]⟩ : ByteArray), .string (⟨#[]⟩ : ByteArray), .string (⟨#[]⟩ : ByteArray), .string (⟨#[]⟩ : ByteArray), .slice none 0 0] (0, 0) _ rfl (zF BK387) Tryz.underlying25 rfl zQ) rfl ?_;exact ⟨_, by first | rfl | (simp [errW_none, errW_some] <;> rfl) | (simp only [← hji2]; first | rfl | (simp [errW_none, errW_some] <;> rfl)) | (simp [*, errW_none, errW_some] <;> rfl), by first | exact Kd.R_nil _ _ _ _ _ | exact Kd.N_nil _ _ _ _ _ | exact Kd.V_nil _ _ _ _ _ | exact Kd.Q_nil _ _ _ _ _ | exact Kd.S_nil _ _ _ _ _, zB2 HB GE387 GE397⟩
            rw [zn c91] at H;have c91b0 : decide (32 < (x398004_2.length : Int)) = false := zf c91;have c91b1 : decide (32 < x398004_2.length) = false := zf zO;clear c91;by_cases c96 : t407.toList = ([] : List UInt8)
            · rw [zp c96] at H;have c96b0 := beq_iff_eq.mpr c96;have c96b1 := zc.mpr c96;clear c96;simp only [Option.some.injEq, Prod.mk.injEq] at H;obtain ⟨rfl, rfl, rfl, rfl, rfl, rfl, rfl⟩ := H;have hnb97 := NB397_387.out;have hnc97 := NB387_397.out;obtain ⟨hcz98_0, hcz98_1, hcz98_2, hcz98_3, hcz98_4, hfz98_0, hfz98_1, hfz98_2, hfz98_3, hfz98_4⟩ := zC5 BK397;obtain ⟨Ao99, co99, eo99⟩ := Kd.R_slice HO_398004.out;subst eo99;obtain ⟨hcz100_0, hcz100_1, hcz100_2, hcz100_3, hcz100_4, hfz100_0, hfz100_1, hfz100_2, hfz100_3, hfz100_4⟩ := zC5 BK387;go_wp2;(try ((with_reducible refine wp_goto ?_); refine Or.inl ⟨rfl, ?_⟩; refine hK0.out _ _ ?_; go_wp2));(try simp only [Exit.two_ret, Exit.noGoto_ret]);refine bodyPost_ret (results_ctt rfl _ _ gb387 25 #[.string t399, .string t405, .string t406, .string x11_2, .slice Ao99 x398004_2.length co99] (0, 0) _ rfl (by (with_reducible repeat (first | refine blk_drewN ?_ _ | refine blk_drew ?_ | refine blk_alloc ?_ _)); refine blk_put (cs := #[.string t399, .string t405, .string t406, .string x11_2, .slice none 0 0]) ?_ 4 _ rfl; (with_reducible repeat (first | refine blk_drewN ?_ _ | refine blk_drew ?_ | refine blk_alloc ?_ _)); refine blk_put (cs := #[.string t399, .string t405, .string t406, .string x388003_2, .slice none 0 0]) ?_ 3 _ rfl; (with_reducible repeat (first | refine blk_drewN ?_ _ | refine blk_drew ?_ | refine blk_alloc ?_ _)); refine blk_put (cs := #[.string t399, .string t405, .string x388002_2, .string x388003_2, .slice none 0 0]) ?_ 2 _ rfl; (with_reducible repeat (first | refine blk_drewN ?_ _ | refine blk_drew ?_ | refine blk_alloc ?_ _)); refine blk_put (cs := #[.string t399, .string x388001_2, .string x388002_2, .string x388003_2, .slice none 0 0]) ?_ 1 _ rfl; (with_reducible repeat (first | refine blk_drewN ?_ _ | refine blk_drew ?_ | refine blk_alloc ?_ _)); refine blk_put (cs := #[.string x388000_2, .string x388001_2, .string x388002_2, .string x388003_2, .slice none 0 0]) ?_ 0 _ rfl; (with_reducible repeat (first | refine blk_drewN ?_ _ | refine blk_drew ?_ | refine blk_alloc ?_ _)); refine blk_far ?_ NB387_397.out _; (with_reducible repeat (first | refine blk_drewN ?_ _ | refine blk_drew ?_ | refine blk_alloc ?_ _)); exact BK387.out) Tryz.underlying25 rfl zQ) rfl ?_;exact ⟨_, by first | rfl | (simp [errW_none, errW_some] <;> rfl) | (simp only [← hji2]; first | rfl | (simp [errW_none, errW_some] <;> rfl)) | (simp [*, errW_none, errW_some] <;> rfl), by (with_reducible repeat (first | apply Kd.R_alloc | apply Kd.R_drewN | apply Kd.R_drew)); exact Kd.R_mono (Kd.R_far (p := ⟨gb387, 4, none⟩) (Kd.R_far (p := ⟨gb387, 3, none⟩) (Kd.R_far (p := ⟨gb387, 2, none⟩) (Kd.R_far (p := ⟨gb387, 1, none⟩) (Kd.R_far (p := ⟨gb387, 0, none⟩) (Kd.R_far (p := ⟨gb397, 3, none⟩) (Kd.R_types (Kd.R_types HO_398004.out BK397.out (by decide)) BK387.out (by decide)) (fun _ hk => hk.1.2) (.string x11_2)) (fun _ hk => hk.2) (.string t399)) (fun _ hk => hk.2) (.string t405)) (fun _ hk => hk.2) (.string t406)) (fun _ hk => hk.2) (.string x11_2)) (fun _ hk => hk.2) (.slice Ao99 x398004_2.length co99)) (fun _ hk => trivial), zB2 HB GE387 GE397⟩
            rw [zn c96] at H;have c96b0 := zb.mpr c96;have c96b1 := bne_iff_ne.mpr c96;simp only [Option.some.injEq, Prod.mk.injEq] at H;obtain ⟨rfl, rfl, rfl, rfl, rfl, rfl, rfl⟩ := H;have hnb101 := NB397_387.out;have hnc101 := NB387_397.out;obtain ⟨hcz102_0, hcz102_1, hcz102_2, hcz102_3, hcz102_4, hfz102_0, hfz102_1, hfz102_2, hfz102_3, hfz102_4⟩ := zC5 BK397;obtain ⟨Ao103, co103, eo103⟩ := Kd.R_slice HO_398004.out;subst eo103;obtain ⟨hcz104_0, hcz104_1, hcz104_2, hcz104_3, hcz104_4, hfz104_0, hfz104_1, hfz104_2, hfz104_3, hfz104_4⟩ := zC5 BK387;go_wp2;(try ((with_reducible refine wp_goto ?_); refine Or.inl ⟨rfl, ?_⟩; refine hK0.out _ _ ?_; go_wp2));(try simp only [Exit.two_ret, Exit.noGoto_ret]);refine bodyPost_ret (results_ctt rfl _ _ gb387 25 #[.string t399, .string t405, .string t406, .string t407, .slice Ao103 x398004_2.length co103] (0, 0) _ rfl (zF BK387) Tryz.underlying25 rfl zQ) rfl ?_;exact ⟨_, by first | rfl | (simp [errW_none, errW_some] <;> rfl) | (simp only [← hji2]; first | rfl | (simp [errW_none, errW_some] <;> rfl)) | (simp [*, errW_none, errW_some] <;> rfl), by (with_reducible repeat (first | apply Kd.R_alloc | apply Kd.R_drewN | apply Kd.R_drew)); exact Kd.R_mono (Kd.R_far (p := ⟨gb387, 4, none⟩) (Kd.R_far (p := ⟨gb387, 3, none⟩) (Kd.R_far (p := ⟨gb387, 2, none⟩) (Kd.R_far (p := ⟨gb387, 1, none⟩) (Kd.R_far (p := ⟨gb387, 0, none⟩) (Kd.R_types HO_398004.out BK387.out (by decide)) (fun _ hk => hk.2) (.string t399)) (fun _ hk => hk.2) (.string t405)) (fun _ hk => hk.2) (.string t406)) (fun _ hk => hk.2) (.string t407)) (fun _ hk => hk.2) (.slice Ao103 x398004_2.length co103)) (fun _ hk => trivial), zB2 HB GE387 GE397⟩
          rw [zp c49] at H;have c49b0 := zt c49;clear c49;by_cases c50 : 0 ≤ x10_2;rotate_left
          · rw [zn c50] at H;exact absurd H (by simp)
          rw [zp c50] at H;have c50b0 := zt c50;clear c50;obtain ⟨⟨t411, t412, t413⟩, A51, H⟩ := zA H;(try dsimp only at H);obtain ⟨t414, A52, H⟩ := zA H;(try dsimp only at H);have HC53 := zN H;clear H;have p410 : 0 ≤ (x10_2 : Int) := zd zS;have q410 : x10_2 < (t394.length : Int) := zd zS;obtain ⟨ad410, e410, hx410_0⟩ := Kd.at_string (Kd.R_reads' HO_6.out).2.2 x10_2 p410 q410;obtain rfl : ad398 = ad410 := (by injection e410);replace p410 := zu p410;replace q410 := zu q410;go_upto_region 18 with (first | ((with_reducible refine gate_callee (f := 55) rfl ?_); refine zg (some 87) Tryz.func55 #[.string (rdOf ByteArray.empty t394 x10_2), .string (⟨#[58]⟩ : ByteArray)] ?_; (with_reducible refine (strings_Cut.calls (rdOf ByteArray.empty t394 x10_2) (⟨#[58]⟩ : ByteArray) t411 t412 t413 _ ?side1 A51.out).mono ?_); (case side1 => exact ML.keep HML.out (zB2 HB GE387 GE397)); rintro e w' ⟨rfl, ⟨nd, rfl⟩⟩; refine ⟨_, rfl, ?_⟩) | ((with_reducible refine gate_callee (f := 85) rfl ?_); refine zg (some 92) Tryz.func85 #[.string t412, .string (⟨#[9, 32]⟩ : ByteArray)] ?_; (with_reducible refine (strings_Trim.calls t412 (⟨#[9, 32]⟩ : ByteArray) t414 _ A52.out).mono ?_); rintro e w54 ⟨rfl, hb⟩; refine ⟨_, rfl, ?_⟩; replace HO_6 := zN (Kd.R_below (zR HO_6) hb); replace HO_398004 := zN (Kd.R_below (zR HO_398004) hb); replace BK387 := zj BK387 hb; replace BK397 := zj BK397 hb; replace HB := zk2 HB GE387 GE397 hb; (try clear hb); (try clear hb2); (try clear hk); (try clear hi)))
          (try simp only [Act.put, List.setIfInBounds_toArray, List.set_cons_zero, List.set_cons_succ]);go_cut [104] from 78 to 127 (fun v104 wc => ∃ (kq : Nat) (x104_52 : Bool), v104 = .bool x104_52 ∧ Aside0 (head_Parse.j2 kq t392 t394 x9_2 x10_2 x11_2 t411 t414 x104_52 t399 t405 t406 t407 x398004_2 = some (r1, r2, r3, r4, r5, r6, r7)) ∧ Aside0 (kq ≤ k2) ∧ Aside0 (Kd.R Kd.string 9 wc w.heap.size (fun _ => True) (.slice (some ad398) t394.length co37) t394) ∧ Aside0 (Kd.R k88 88 wc w.heap.size (fun _ => True) u398004 x398004_2) ∧ Aside0 (wc.heap[gb387]? = some (.cells #[.string x388000_2, .string x388001_2, .string x388002_2, .string x388003_2, (.slice none 0 0)] 25 (0, 0))) ∧ Aside0 (wc.heap[gb397]? = some (.cells #[.string t399, .string t405, .string t406, .string t407, u398004] 25 (0, 0))) ∧ Aside0 (Below w.heap.size w wc))
          case first =>
            have H := HC53.out;clear HC53;by_cases c55 : t413 = true;rotate_left
            · replace c55 := zq.mpr c55;subst c55;have H1 := H; rw [zn (show ¬ (false = true) by decide)] at H1;clear H;have H := H1;clear H1;have H' := zN H;clear H;go_wp2;go_meet
              case rel => exact ⟨_, (true), zI, H', ⟨by have := HJ26.out; have := HK2.out; first | omega | exact zh _⟩, ⟨zR HO_6⟩, ⟨zR HO_398004⟩, ⟨zK BK387⟩, ⟨zK BK397⟩, ⟨zB2 HB GE387 GE397⟩⟩
            subst c55;have H1 := H; rw [zp rfl] at H1;clear H;have H := H1;clear H1;obtain ⟨t415, A56, H⟩ := zA H;(try dsimp only at H);by_cases c57 : t415 = true
            · subst c57;have H1 := H; rw [zp rfl] at H1;clear H;have H := H1;clear H1;obtain ⟨t416, A58, H⟩ := zA H;(try dsimp only at H);have H' := zN H;clear H;go_wp2_with (first | (go_at_call 22; (with_reducible refine (head_token.calls k2 t411 true _ A56.out).mono ?_); rintro e w' ⟨rfl, ⟨nd, rfl⟩⟩) | (go_at_call 26; (with_reducible refine (head_value.calls k2 t414 t416 _ A58.out).mono ?_); rintro e w' ⟨rfl, ⟨nd, rfl⟩⟩));go_meet
              case rel => exact ⟨_, (!t416), zI, H', ⟨by have := HJ26.out; have := HK2.out; first | omega | exact zh _⟩, ⟨zR HO_6⟩, ⟨zR HO_398004⟩, ⟨zK BK387⟩, ⟨zK BK397⟩, ⟨zB2 HB GE387 GE397⟩⟩
            replace c57 := zq.mpr c57;subst c57;have H1 := H; rw [zn (show ¬ (false = true) by decide)] at H1;clear H;have H := H1;clear H1;have H' := zN H;clear H;go_wp2_with (first | (go_at_call 22; (with_reducible refine (head_token.calls k2 t411 false _ A56.out).mono ?_); rintro e w' ⟨rfl, ⟨nd, rfl⟩⟩));go_meet
            case rel => exact ⟨_, (true), zI, H', ⟨by have := HJ26.out; have := HK2.out; first | omega | exact zh _⟩, ⟨zR HO_6⟩, ⟨zR HO_398004⟩, ⟨zK BK387⟩, ⟨zK BK397⟩, ⟨zB2 HB GE387 GE397⟩⟩
          case rest =>
            clear HC53
            try clear c2
            try clear p2
            try clear c3
            try clear c3b0
            try clear c3b1
            try clear p3
            try clear q3
            try clear hx3
            try clear hcv3
            try clear qi3
            try clear c4
            try clear c4b0
            try clear c4b1
            try clear p4
            try clear q4
            try clear hx4
            try clear c5
            try clear c6
            try clear c6b0
            try clear c7
            try clear c7b0
            try clear c7b1
            try clear c8
            try clear c20
            try clear c20b0
            try clear c20b1
            try clear c21
            try clear c21b0
            try clear c21b1
            try clear c23
            try clear c23b0
            try clear c23b1
            try clear hcv34
            try clear c39
            try clear p39
            try clear q39
            try clear hx39
            try clear qi39
            try clear c41
            try clear p41
            try clear q41
            try clear hx41
            try clear c43
            try clear c44
            try clear c45
            try clear c47
            try clear c49
            try clear c49b0
            try clear c50
            try clear c50b0
            try clear c55
            try clear c56
            try clear c57
            try clear hcz13_0
            try clear hcz13_1
            try clear hcz13_2
            try clear hcz13_3
            try clear hcz13_4
            try clear hcz19_0
            try clear hcz19_1
            try clear hcz19_2
            try clear hcz19_3
            try clear hcz19_4
            try clear hcz40_0
            try clear hcz40_1
            try clear hcz40_2
            try clear hcz40_3
            try clear hcz40_4
            try clear hcz46_0
            try clear hcz46_1
            try clear hcz46_2
            try clear hcz46_3
            try clear hcz46_4
            try clear hcz48_0
            try clear hcz48_1
            try clear hcz48_2
            try clear hcz48_3
            try clear hcz48_4
            try clear hfz13_0
            try clear hfz13_1
            try clear hfz13_2
            try clear hfz13_3
            try clear hfz13_4
            try clear hfz19_0
            try clear hfz19_1
            try clear hfz19_2
            try clear hfz19_3
            try clear hfz19_4
            try clear hfz40_0
            try clear hfz40_1
            try clear hfz40_2
            try clear hfz40_3
            try clear hfz40_4
            try clear hfz46_0
            try clear hfz46_1
            try clear hfz46_2
            try clear hfz46_3
            try clear hfz46_4
            try clear hfz48_0
            try clear hfz48_1
            try clear hfz48_2
            try clear hfz48_3
            try clear hfz48_4
            try clear hx398_0
            try clear hx410_0
            try clear p2
            try clear p3
            try clear p39
            try clear p398
            try clear p410
            try clear q3
            try clear q39
            try clear q398
            try clear q410
            obtain ⟨kq, x104_52, rfl, HA, HJ52, HO_6, HO_398004, BK387, BK397, HB⟩ := hcut;cases kq with
            | zero => exact absurd HA.out (by simp [head_Parse.j2])
            | succ kj52 =>
              have H := HA.out;clear HA;simp only [head_Parse.j2] at H;by_cases c59 : x104_52 = true
              · subst c59;have H1 := H; rw [zp rfl] at H1;clear H;have H := H1;clear H1;simp only [Option.some.injEq, Prod.mk.injEq] at H;obtain ⟨rfl, rfl, rfl, rfl, rfl, rfl, rfl⟩ := H;have hnb60 := NB387_397.out;have hnc60 := NB397_387.out;obtain ⟨hcz61_0, hcz61_1, hcz61_2, hcz61_3, hcz61_4, hfz61_0, hfz61_1, hfz61_2, hfz61_3, hfz61_4⟩ := zC5 BK387;go_wp2;(try ((with_reducible refine wp_goto ?_); refine Or.inl ⟨rfl, ?_⟩; refine hK0.out _ _ ?_; go_wp2));(try simp only [Exit.two_ret, Exit.noGoto_ret]);refine bodyPost_ret (results_ctt rfl _ _ gb387 25 #[.string (⟨#[]⟩ : ByteArray), .string (⟨#[]⟩ : ByteArray), .string (⟨#[]⟩ : ByteArray), .string (⟨#[]⟩ : ByteArray), .slice none 0 0] (0, 0) _ rfl (zF BK387) Tryz.underlying25 rfl zQ) rfl ?_;exact ⟨_, by first | rfl | (simp [errW_none, errW_some] <;> rfl) | (simp only [← hji2]; first | rfl | (simp [errW_none, errW_some] <;> rfl)) | (simp [*, errW_none, errW_some] <;> rfl), by first | exact Kd.R_nil _ _ _ _ _ | exact Kd.N_nil _ _ _ _ _ | exact Kd.V_nil _ _ _ _ _ | exact Kd.Q_nil _ _ _ _ _ | exact Kd.S_nil _ _ _ _ _, zB2 HB GE387 GE397⟩
              replace c59 := zq.mpr c59;subst c59;have H1 := H; rw [zn (show ¬ (false = true) by decide)] at H1;clear H;have H := H1;clear H1;obtain ⟨t417, A62, H⟩ := zA H;(try dsimp only at H);by_cases c63 : x398004_2.length < 4398046511104;rotate_left
              · rw [zn c63] at H;exact absurd H (by simp)
              rw [zp c63] at H;have LMc63 := zN c63;clear c63;obtain ⟨y418, hy418⟩ : ∃ y_ : List (S88), y_ = (x398004_2 ++ [(⟨t417, t414⟩ : S88)]) := ⟨_, rfl⟩;replace H : ((head_lower.f t411).bind fun t421 => (if t421.toList = ([104, 111, 115, 116] : List UInt8) then ((head_Host.f kj52 t414).bind fun bt422 => (if bt422.2 = true then (head_Parse.l0 kj52 t392 t394 (wrap64 (x9_2 + 1)) (wrap64 (x10_2 + 1)) bt422.1 t399 t405 t406 t407 y418) else (some ((⟨#[]⟩ : ByteArray), (⟨#[]⟩ : ByteArray), (⟨#[]⟩ : ByteArray), (⟨#[]⟩ : ByteArray), ([] : List (S88)), 0, 4)))) else (head_Parse.l0 kj52 t392 t394 x9_2 (wrap64 (x10_2 + 1)) x11_2 t399 t405 t406 t407 y418))) = some (r1, r2, r3, r4, r5, r6, r7) := by first | (rw [hy418]; with_reducible exact H) | (have H2_ := (Option.bind_some _ _).symm.trans H; rw [hy418]; with_reducible exact H2_) | (have H2_ := (Option.bind_some _ _).symm.trans H; with_reducible exact H2_) | with_reducible exact H | (rw [hy418]; exact H) | exact H
              have Ny418 := zN hy418;clear hy418;obtain ⟨t421, A64, H⟩ := zA H;(try dsimp only at H);by_cases c65 : t421.toList = ([104, 111, 115, 116] : List UInt8);rotate_left
              · rw [zn c65] at H;have c65b0 := zb.mpr c65;have c65b1 := bne_iff_ne.mpr c65;have H' := zN H;clear H
                try go_wp2
                replace HO_6 := zN (Kd.R_drew HO_6.out);replace HO_398004 := zN (Kd.R_drew HO_398004.out);replace BK387 := zN (blk_drew BK387.out);replace BK397 := zN (blk_drew BK397.out);replace HB := zN (below_drew1 HB.out);refine start_ (n := 10) (S := fun w' => w'.cell? ⟨gb397, 0, none⟩ = some (.string t399) ∧ w'.cell? ⟨gb397, 1, none⟩ = some (.string t405) ∧ w'.cell? ⟨gb397, 2, none⟩ = some (.string t406) ∧ w'.cell? ⟨gb397, 3, none⟩ = some (.string t407) ∧ w'.cell? ⟨gb397, 4, none⟩ = some (u398004)) (ds := [9]) #[false, false, false, false, false, false, false, false, false, false] zQ rfl rfl ⟨(blk_cell BK397.out 0).trans rfl, (blk_cell BK397.out 1).trans rfl, (blk_cell BK397.out 2).trans rfl, (blk_cell BK397.out 3).trans rfl, (blk_cell BK397.out 4).trans rfl⟩ (fun hHeld => ?_); refine with_tabW head_Parse.tab19 head_Parse.bits19 (fun HT_ HW_ => ?_);generalize wc.drew = w84 at HO_6 HO_398004 BK387 BK397 HB hHeld ⊢;refine zU (i := 0) (N := some 105) #[true, false, false, false, false, false, false, false, false, false] rfl rfl HT_ ?_;refine zU (i := 2) (N := some 107) #[true, false, true, false, false, false, false, false, false, false] rfl rfl HT_ ?_;refine zU (i := 4) (N := some 109) #[true, false, true, false, true, false, false, false, false, false] rfl rfl HT_ ?_;refine take_ (i := 1) (N := some 106) (v := ?_) (a' := ?_) #[true, true, true, false, true, false, false, false, false, false] rfl rfl (take_ofW HT_.out HW_.out zQ) (fun _ _ _ h => h) (Or.inl ⟨by rfl, ?_⟩) hHeld ?_ ?_;rotate_left
                · rintro w' ⟨s0, s1, s2, s3, s4⟩;go_simp
                  with_reducible rfl
                rotate_left
                · simp only [zP];rfl
                refine one_ (i := 3) (N := some 108) #[true, true, true, true, true, false, false, false, false, false] rfl rfl (one_of HT_.out zQ) (by decide) (fun K hK => ?_);refine goes_ Tryz.func25 zQ rfl #[.string t411] (by rfl) rfl rfl zM ?_
                with_reducible refine (head_lower.calls t411 t417 _ A62.out).mono ?_
                rintro e w85 ⟨rfl, hb⟩;refine ⟨_, rfl, ?_⟩;replace HO_6 := zN (Kd.R_below (zR HO_6) hb);replace HO_398004 := zN (Kd.R_below (zR HO_398004) hb);replace BK387 := zj BK387 hb;replace BK397 := zj BK397 hb;replace HB := zk2 HB GE387 GE397 hb;(try clear hb);(try clear hb2);(try clear hk);(try clear hi);refine hK.out _ _ ⟨(blk_cell BK397.out 0).trans rfl, (blk_cell BK397.out 1).trans rfl, (blk_cell BK397.out 2).trans rfl, (blk_cell BK397.out 3).trans rfl, (blk_cell BK397.out 4).trans rfl⟩ (fun hHeld => ?_);clear hK K;refine norm_ (a' := ?_) ?_ ?_;rotate_left
                · show Act.put _ (some 108) _ = _
                  simp only [zP];rfl
                refine zU (i := 5) (N := some 110) #[true, true, true, true, true, true, false, false, false, false] rfl rfl HT_ ?_;refine one_ (i := 6) (N := some 111) #[true, true, true, true, true, true, true, false, false, false] rfl rfl (one_of HT_.out zQ) (by decide) (fun K hK => ?_);refine value_ (w1 := ?_) (v := ?_) (by rfl) rfl ?_ ?_;rotate_left 2
                · go_simp
                  constructor
                  · rfl
                  rfl
                refine hK.out _ _ ⟨(blk_cell (blk_alloc BK397.out _) 0).trans rfl, (blk_cell (blk_alloc BK397.out _) 1).trans rfl, (blk_cell (blk_alloc BK397.out _) 2).trans rfl, (blk_cell (blk_alloc BK397.out _) 3).trans rfl, (blk_cell (blk_alloc BK397.out _) 4).trans rfl⟩ (fun hHeld => ?_);clear hK K;refine norm_ (a' := ?_) ?_ ?_;rotate_left
                · show Act.put _ (some 111) _ = _
                  simp only [zP];rfl
                refine one_ (i := 7) (N := some 112) #[true, true, true, true, true, true, true, true, false, false] rfl rfl (one_of HT_.out zQ) (by decide) (fun K hK => ?_);refine Kd.R_append_step k88 (w0 := w) w.heap.size (by rfl) (.tmp 106) (.tmp 111) 23 88 (.agg #[(.string ⟨#[]⟩), (.string ⟨#[]⟩)]) 32 rfl Tryz.underlying23 info88 rfl (by decide) zO u398004 x398004_2 (⟨t417, t414⟩ : S88) [.string t417, .string t414] (fun _ => True) (fun _ => False) rfl rfl ?aP (fun _ hk => hk.elim) ?aF ?aO ?aB ?aS ?aL ?_
                (case aP => exact k88_mkM _ _ _ (⟨t417, t414⟩ : S88))
                (case aB => exact (zB2 HB GE387 GE397))
                (case aF => exact (fun _ _ => trivial))
                (case aO => exact (zR HO_398004))
                (case aS => exact (below_size (zB2 HB GE387 GE397)))
                (case aL => have := LMc63.out; omega)
                intro v419 w86 ho hb hg hat
                rw [← Ny418.out] at ho;replace HO_6 := zN (Kd.R_over' (zR HO_6) (Kd.R_typed (zR HO_398004)) (by decide) hg);replace BK387 := zN (blk_grown (g := gb387) (o := .cells #[.string x388000_2, .string x388001_2, .string x388002_2, .string x388003_2, .slice none 0 0] 25 (0, 0)) (zK BK387) hg (Kd.R_ne HO_398004.out BK387.out (by decide)));replace BK397 := zN (blk_grown (g := gb397) (o := .cells #[.string t399, .string t405, .string t406, .string t407, u398004] 25 (0, 0)) (zK BK397) hg (Kd.R_ne HO_398004.out BK397.out (by decide)));replace HB := zN hb;have HO420 := zN ho;clear HO_398004;clear ho hb hg hat
                obtain ⟨Ao87, co87, eo87⟩ := Kd.R_slice HO420.out;(first | subst eo87 | (injection eo87 with f1_ f2_ f3_; have f4_ := f1_.symm; have f5_ := f3_.symm; clear f1_ f2_ f3_; subst f4_; subst f5_));refine hK.out _ _ ⟨(blk_cell BK397.out 0).trans rfl, (blk_cell BK397.out 1).trans rfl, (blk_cell BK397.out 2).trans rfl, (blk_cell BK397.out 3).trans rfl, (blk_cell BK397.out 4).trans rfl⟩ (fun hHeld => ?_);clear hK K;refine norm_ (a' := ?_) ?_ ?_;rotate_left
                · show Act.put _ (some 112) _ = _
                  simp only [zP];rfl
                refine zU (i := 8) (N := some 113) #[true, true, true, true, true, true, true, true, true, false] rfl rfl HT_ ?_;refine last_ (i := 9) (N := none) #[true, true, true, true, true, true, true, true, true, true] rfl rfl (one_of HT_.out zQ) (by decide) (fun K hK => ?_);have hs88 : w86.cell? ⟨gb397, 4, none⟩ = some (u398004) := (blk_cell BK397.out 4).trans rfl;have hfs88 := blk_frozen BK397.out 4;have hns88_0 := NB387_397.out;have hms88_0 := NB397_387.out;refine skip_ (w1 := ?_) (by rfl) rfl ?_ ?_;rotate_left
                · go_simp;rfl
                refine hK.out _ _ ?_;clear hK K;refine done_ (done_of HT_.out zQ) ?_
                try go_wp2_with (first | ((with_reducible refine gate_callee (f := 25) rfl ?_); refine zg (some 115) Tryz.func25 #[.string t411] ?_; (with_reducible refine (head_lower.calls t411 t421 _ A64.out).mono ?_); rintro e w89 ⟨rfl, hb⟩; refine ⟨_, rfl, ?_⟩; replace HO_6 := zN (Kd.R_below (by (with_reducible repeat (first | apply Kd.R_alloc | apply Kd.R_drewN | apply Kd.R_drew)); exact (Kd.R_mono (Kd.R_far (p := ⟨gb397, 4, none⟩) (Kd.R_types HO_6.out BK397.out (by decide)) (fun _ hk => hk.2) (.slice Ao87 y418.length co87)) (fun _ h_ => h_.1))) hb); replace HO420 := zN (Kd.R_below (by (with_reducible repeat (first | apply Kd.R_alloc | apply Kd.R_drewN | apply Kd.R_drew)); exact (Kd.R_mono (Kd.R_far (p := ⟨gb397, 4, none⟩) (Kd.R_types HO420.out BK397.out (by decide)) (fun _ hk => hk.2) (.slice Ao87 y418.length co87)) (fun _ h_ => h_.1))) hb); replace BK387 := zN (blk_below (g := gb387) (o := .cells #[.string x388000_2, .string x388001_2, .string x388002_2, .string x388003_2, .slice none 0 0] 25 (0, 0)) (zF1 BK387 NB387_397) hb); replace BK397 := zN (blk_below (g := gb397) (o := .cells #[.string t399, .string t405, .string t406, .string t407, .slice Ao87 y418.length co87] 25 (0, 0)) (zF BK397) hb); replace HB := zk2 HB GE387 GE397 hb; (try clear hb); (try clear hb2); (try clear hk); (try clear hi)))
                refine wp_goto ?_;refine Or.inr ⟨rfl, ?_⟩;go_step;go_roundg kj52
                case measure => have := HJ26.out; have := HK2.out; have := HJ52.out; omega
                case rel => exact ⟨(x9_2), (wrap64 (x10_2 + 1)), (x11_2), (x388000_2), (x388001_2), (x388002_2), (x388003_2), (y418), (.slice Ao87 y418.length co87), zI, zI, zI, H', ⟨by have := HJ26.out; have := HK2.out; have := HJ52.out; omega⟩, ⟨zR HO_6⟩, ⟨zR HO420⟩, ⟨zK BK387⟩, ⟨zK BK397⟩, ⟨zB2 HB GE387 GE397⟩⟩
              rw [zp c65] at H;have c65b0 := beq_iff_eq.mpr c65;have c65b1 := zc.mpr c65;clear c65;obtain ⟨⟨t422, t423⟩, A66, H⟩ := zA H;(try dsimp only at H);by_cases c67 : t423 = true
              · subst c67;have H1 := H; rw [zp rfl] at H1;clear H;have H := H1;clear H1;have H' := zN H;clear H
                try go_wp2
                replace HO_6 := zN (Kd.R_drew HO_6.out);replace HO_398004 := zN (Kd.R_drew HO_398004.out);replace BK387 := zN (blk_drew BK387.out);replace BK397 := zN (blk_drew BK397.out);replace HB := zN (below_drew1 HB.out);refine start_ (n := 10) (S := fun w' => w'.cell? ⟨gb397, 0, none⟩ = some (.string t399) ∧ w'.cell? ⟨gb397, 1, none⟩ = some (.string t405) ∧ w'.cell? ⟨gb397, 2, none⟩ = some (.string t406) ∧ w'.cell? ⟨gb397, 3, none⟩ = some (.string t407) ∧ w'.cell? ⟨gb397, 4, none⟩ = some (u398004)) (ds := [9]) #[false, false, false, false, false, false, false, false, false, false] zQ rfl rfl ⟨(blk_cell BK397.out 0).trans rfl, (blk_cell BK397.out 1).trans rfl, (blk_cell BK397.out 2).trans rfl, (blk_cell BK397.out 3).trans rfl, (blk_cell BK397.out 4).trans rfl⟩ (fun hHeld => ?_); refine with_tabW head_Parse.tab19 head_Parse.bits19 (fun HT_ HW_ => ?_);generalize wc.drew = w68 at HO_6 HO_398004 BK387 BK397 HB hHeld ⊢;refine zU (i := 0) (N := some 105) #[true, false, false, false, false, false, false, false, false, false] rfl rfl HT_ ?_;refine zU (i := 2) (N := some 107) #[true, false, true, false, false, false, false, false, false, false] rfl rfl HT_ ?_;refine zU (i := 4) (N := some 109) #[true, false, true, false, true, false, false, false, false, false] rfl rfl HT_ ?_;refine take_ (i := 1) (N := some 106) (v := ?_) (a' := ?_) #[true, true, true, false, true, false, false, false, false, false] rfl rfl (take_ofW HT_.out HW_.out zQ) (fun _ _ _ h => h) (Or.inl ⟨by rfl, ?_⟩) hHeld ?_ ?_;rotate_left
                · rintro w' ⟨s0, s1, s2, s3, s4⟩;go_simp
                  with_reducible rfl
                rotate_left
                · simp only [zP];rfl
                refine one_ (i := 3) (N := some 108) #[true, true, true, true, true, false, false, false, false, false] rfl rfl (one_of HT_.out zQ) (by decide) (fun K hK => ?_);refine goes_ Tryz.func25 zQ rfl #[.string t411] (by rfl) rfl rfl zM ?_
                with_reducible refine (head_lower.calls t411 t417 _ A62.out).mono ?_
                rintro e w69 ⟨rfl, hb⟩;refine ⟨_, rfl, ?_⟩;replace HO_6 := zN (Kd.R_below (zR HO_6) hb);replace HO_398004 := zN (Kd.R_below (zR HO_398004) hb);replace BK387 := zj BK387 hb;replace BK397 := zj BK397 hb;replace HB := zk2 HB GE387 GE397 hb;(try clear hb);(try clear hb2);(try clear hk);(try clear hi);refine hK.out _ _ ⟨(blk_cell BK397.out 0).trans rfl, (blk_cell BK397.out 1).trans rfl, (blk_cell BK397.out 2).trans rfl, (blk_cell BK397.out 3).trans rfl, (blk_cell BK397.out 4).trans rfl⟩ (fun hHeld => ?_);clear hK K;refine norm_ (a' := ?_) ?_ ?_;rotate_left
                · show Act.put _ (some 108) _ = _
                  simp only [zP];rfl
                refine zU (i := 5) (N := some 110) #[true, true, true, true, true, true, false, false, false, false] rfl rfl HT_ ?_;refine one_ (i := 6) (N := some 111) #[true, true, true, true, true, true, true, false, false, false] rfl rfl (one_of HT_.out zQ) (by decide) (fun K hK => ?_);refine value_ (w1 := ?_) (v := ?_) (by rfl) rfl ?_ ?_;rotate_left 2
                · go_simp
                  constructor
                  · rfl
                  rfl
                refine hK.out _ _ ⟨(blk_cell (blk_alloc BK397.out _) 0).trans rfl, (blk_cell (blk_alloc BK397.out _) 1).trans rfl, (blk_cell (blk_alloc BK397.out _) 2).trans rfl, (blk_cell (blk_alloc BK397.out _) 3).trans rfl, (blk_cell (blk_alloc BK397.out _) 4).trans rfl⟩ (fun hHeld => ?_);clear hK K;refine norm_ (a' := ?_) ?_ ?_;rotate_left
                · show Act.put _ (some 111) _ = _
                  simp only [zP];rfl
                refine one_ (i := 7) (N := some 112) #[true, true, true, true, true, true, true, true, false, false] rfl rfl (one_of HT_.out zQ) (by decide) (fun K hK => ?_);refine Kd.R_append_step k88 (w0 := w) w.heap.size (by rfl) (.tmp 106) (.tmp 111) 23 88 (.agg #[(.string ⟨#[]⟩), (.string ⟨#[]⟩)]) 32 rfl Tryz.underlying23 info88 rfl (by decide) zO u398004 x398004_2 (⟨t417, t414⟩ : S88) [.string t417, .string t414] (fun _ => True) (fun _ => False) rfl rfl ?aP (fun _ hk => hk.elim) ?aF ?aO ?aB ?aS ?aL ?_
                (case aP => exact k88_mkM _ _ _ (⟨t417, t414⟩ : S88))
                (case aB => exact (zB2 HB GE387 GE397))
                (case aF => exact (fun _ _ => trivial))
                (case aO => exact (zR HO_398004))
                (case aS => exact (below_size (zB2 HB GE387 GE397)))
                (case aL => have := LMc63.out; omega)
                intro v419 w70 ho hb hg hat
                rw [← Ny418.out] at ho;replace HO_6 := zN (Kd.R_over' (zR HO_6) (Kd.R_typed (zR HO_398004)) (by decide) hg);replace BK387 := zN (blk_grown (g := gb387) (o := .cells #[.string x388000_2, .string x388001_2, .string x388002_2, .string x388003_2, .slice none 0 0] 25 (0, 0)) (zK BK387) hg (Kd.R_ne HO_398004.out BK387.out (by decide)));replace BK397 := zN (blk_grown (g := gb397) (o := .cells #[.string t399, .string t405, .string t406, .string t407, u398004] 25 (0, 0)) (zK BK397) hg (Kd.R_ne HO_398004.out BK397.out (by decide)));replace HB := zN hb;have HO420 := zN ho;clear HO_398004;clear ho hb hg hat
                obtain ⟨Ao71, co71, eo71⟩ := Kd.R_slice HO420.out;(first | subst eo71 | (injection eo71 with f1_ f2_ f3_; have f4_ := f1_.symm; have f5_ := f3_.symm; clear f1_ f2_ f3_; subst f4_; subst f5_));refine hK.out _ _ ⟨(blk_cell BK397.out 0).trans rfl, (blk_cell BK397.out 1).trans rfl, (blk_cell BK397.out 2).trans rfl, (blk_cell BK397.out 3).trans rfl, (blk_cell BK397.out 4).trans rfl⟩ (fun hHeld => ?_);clear hK K;refine norm_ (a' := ?_) ?_ ?_;rotate_left
                · show Act.put _ (some 112) _ = _
                  simp only [zP];rfl
                refine zU (i := 8) (N := some 113) #[true, true, true, true, true, true, true, true, true, false] rfl rfl HT_ ?_;refine last_ (i := 9) (N := none) #[true, true, true, true, true, true, true, true, true, true] rfl rfl (one_of HT_.out zQ) (by decide) (fun K hK => ?_);have hs72 : w70.cell? ⟨gb397, 4, none⟩ = some (u398004) := (blk_cell BK397.out 4).trans rfl;have hfs72 := blk_frozen BK397.out 4;have hns72_0 := NB387_397.out;have hms72_0 := NB397_387.out;refine skip_ (w1 := ?_) (by rfl) rfl ?_ ?_;rotate_left
                · go_simp;rfl
                refine hK.out _ _ ?_;clear hK K;refine done_ (done_of HT_.out zQ) ?_
                try go_wp2_with (first | ((with_reducible refine gate_callee (f := 25) rfl ?_); refine zg (some 115) Tryz.func25 #[.string t411] ?_; (with_reducible refine (head_lower.calls t411 t421 _ A64.out).mono ?_); rintro e w73 ⟨rfl, hb⟩; refine ⟨_, rfl, ?_⟩; replace HO_6 := zN (Kd.R_below (by (with_reducible repeat (first | apply Kd.R_alloc | apply Kd.R_drewN | apply Kd.R_drew)); exact (Kd.R_mono (Kd.R_far (p := ⟨gb397, 4, none⟩) (Kd.R_types HO_6.out BK397.out (by decide)) (fun _ hk => hk.2) (.slice Ao71 y418.length co71)) (fun _ h_ => h_.1))) hb); replace HO420 := zN (Kd.R_below (by (with_reducible repeat (first | apply Kd.R_alloc | apply Kd.R_drewN | apply Kd.R_drew)); exact (Kd.R_mono (Kd.R_far (p := ⟨gb397, 4, none⟩) (Kd.R_types HO420.out BK397.out (by decide)) (fun _ hk => hk.2) (.slice Ao71 y418.length co71)) (fun _ h_ => h_.1))) hb); replace BK387 := zN (blk_below (g := gb387) (o := .cells #[.string x388000_2, .string x388001_2, .string x388002_2, .string x388003_2, .slice none 0 0] 25 (0, 0)) (zF1 BK387 NB387_397) hb); replace BK397 := zN (blk_below (g := gb397) (o := .cells #[.string t399, .string t405, .string t406, .string t407, .slice Ao71 y418.length co71] 25 (0, 0)) (zF BK397) hb); replace HB := zk2 HB GE387 GE397 hb; (try clear hb); (try clear hb2); (try clear hk); (try clear hi)) | ((with_reducible refine gate_callee (f := 27) rfl ?_); refine zg (some 121) Tryz.func27 #[.string t414] ?_; (with_reducible refine (head_Host.calls kj52 t414 t422 true _ ?side1 A66.out).mono ?_); (case side1 => exact ML.keep HML.out (zB2 HB GE387 GE397)); rintro e w74 ⟨rfl, hb⟩; refine ⟨_, rfl, ?_⟩; replace HO_6 := zN (Kd.R_below (zR HO_6) hb); replace HO420 := zN (Kd.R_below (zR HO420) hb); replace BK387 := zj BK387 hb; replace BK397 := zj BK397 hb; replace HB := zk2 HB GE387 GE397 hb; (try clear hb); (try clear hb2); (try clear hk); (try clear hi)))
                refine wp_goto ?_;refine Or.inr ⟨rfl, ?_⟩;go_step;go_roundg kj52
                case measure => have := HJ26.out; have := HK2.out; have := HJ52.out; omega
                case rel => exact ⟨(wrap64 (x9_2 + 1)), (wrap64 (x10_2 + 1)), (t422), (x388000_2), (x388001_2), (x388002_2), (x388003_2), (y418), (.slice Ao71 y418.length co71), zI, zI, zI, H', ⟨by have := HJ26.out; have := HK2.out; have := HJ52.out; omega⟩, ⟨zR HO_6⟩, ⟨zR HO420⟩, ⟨zK BK387⟩, ⟨zK BK397⟩, ⟨zB2 HB GE387 GE397⟩⟩
              replace c67 := zq.mpr c67;subst c67;have H1 := H; rw [zn (show ¬ (false = true) by decide)] at H1;clear H;have H := H1;clear H1;simp only [Option.some.injEq, Prod.mk.injEq] at H;obtain ⟨rfl, rfl, rfl, rfl, rfl, rfl, rfl⟩ := H
              try go_wp2
              replace HO_6 := zN (Kd.R_drew HO_6.out);replace HO_398004 := zN (Kd.R_drew HO_398004.out);replace BK387 := zN (blk_drew BK387.out);replace BK397 := zN (blk_drew BK397.out);replace HB := zN (below_drew1 HB.out);refine start_ (n := 10) (S := fun w' => w'.cell? ⟨gb397, 0, none⟩ = some (.string t399) ∧ w'.cell? ⟨gb397, 1, none⟩ = some (.string t405) ∧ w'.cell? ⟨gb397, 2, none⟩ = some (.string t406) ∧ w'.cell? ⟨gb397, 3, none⟩ = some (.string t407) ∧ w'.cell? ⟨gb397, 4, none⟩ = some (u398004)) (ds := [9]) #[false, false, false, false, false, false, false, false, false, false] zQ rfl rfl ⟨(blk_cell BK397.out 0).trans rfl, (blk_cell BK397.out 1).trans rfl, (blk_cell BK397.out 2).trans rfl, (blk_cell BK397.out 3).trans rfl, (blk_cell BK397.out 4).trans rfl⟩ (fun hHeld => ?_); refine with_tabW head_Parse.tab19 head_Parse.bits19 (fun HT_ HW_ => ?_);generalize wc.drew = w75 at HO_6 HO_398004 BK387 BK397 HB hHeld ⊢;refine zU (i := 0) (N := some 105) #[true, false, false, false, false, false, false, false, false, false] rfl rfl HT_ ?_;refine zU (i := 2) (N := some 107) #[true, false, true, false, false, false, false, false, false, false] rfl rfl HT_ ?_;refine zU (i := 4) (N := some 109) #[true, false, true, false, true, false, false, false, false, false] rfl rfl HT_ ?_;refine take_ (i := 1) (N := some 106) (v := ?_) (a' := ?_) #[true, true, true, false, true, false, false, false, false, false] rfl rfl (take_ofW HT_.out HW_.out zQ) (fun _ _ _ h => h) (Or.inl ⟨by rfl, ?_⟩) hHeld ?_ ?_;rotate_left
              · rintro w' ⟨s0, s1, s2, s3, s4⟩;go_simp
                with_reducible rfl
              rotate_left
              · simp only [zP];rfl
              refine one_ (i := 3) (N := some 108) #[true, true, true, true, true, false, false, false, false, false] rfl rfl (one_of HT_.out zQ) (by decide) (fun K hK => ?_);refine goes_ Tryz.func25 zQ rfl #[.string t411] (by rfl) rfl rfl zM ?_
              with_reducible refine (head_lower.calls t411 t417 _ A62.out).mono ?_
              rintro e w76 ⟨rfl, hb⟩;refine ⟨_, rfl, ?_⟩;replace HO_6 := zN (Kd.R_below (zR HO_6) hb);replace HO_398004 := zN (Kd.R_below (zR HO_398004) hb);replace BK387 := zj BK387 hb;replace BK397 := zj BK397 hb;replace HB := zk2 HB GE387 GE397 hb;(try clear hb);(try clear hb2);(try clear hk);(try clear hi);refine hK.out _ _ ⟨(blk_cell BK397.out 0).trans rfl, (blk_cell BK397.out 1).trans rfl, (blk_cell BK397.out 2).trans rfl, (blk_cell BK397.out 3).trans rfl, (blk_cell BK397.out 4).trans rfl⟩ (fun hHeld => ?_);clear hK K;refine norm_ (a' := ?_) ?_ ?_;rotate_left
              · show Act.put _ (some 108) _ = _
                simp only [zP];rfl
              refine zU (i := 5) (N := some 110) #[true, true, true, true, true, true, false, false, false, false] rfl rfl HT_ ?_;refine one_ (i := 6) (N := some 111) #[true, true, true, true, true, true, true, false, false, false] rfl rfl (one_of HT_.out zQ) (by decide) (fun K hK => ?_);refine value_ (w1 := ?_) (v := ?_) (by rfl) rfl ?_ ?_;rotate_left 2
              · go_simp
                constructor
                · rfl
                rfl
              refine hK.out _ _ ⟨(blk_cell (blk_alloc BK397.out _) 0).trans rfl, (blk_cell (blk_alloc BK397.out _) 1).trans rfl, (blk_cell (blk_alloc BK397.out _) 2).trans rfl, (blk_cell (blk_alloc BK397.out _) 3).trans rfl, (blk_cell (blk_alloc BK397.out _) 4).trans rfl⟩ (fun hHeld => ?_);clear hK K;refine norm_ (a' := ?_) ?_ ?_;rotate_left
              · show Act.put _ (some 111) _ = _
                simp only [zP];rfl
              refine one_ (i := 7) (N := some 112) #[true, true, true, true, true, true, true, true, false, false] rfl rfl (one_of HT_.out zQ) (by decide) (fun K hK => ?_);refine Kd.R_append_step k88 (w0 := w) w.heap.size (by rfl) (.tmp 106) (.tmp 111) 23 88 (.agg #[(.string ⟨#[]⟩), (.string ⟨#[]⟩)]) 32 rfl Tryz.underlying23 info88 rfl (by decide) zO u398004 x398004_2 (⟨t417, t414⟩ : S88) [.string t417, .string t414] (fun _ => True) (fun _ => False) rfl rfl ?aP (fun _ hk => hk.elim) ?aF ?aO ?aB ?aS ?aL ?_
              (case aP => exact k88_mkM _ _ _ (⟨t417, t414⟩ : S88))
              (case aB => exact (zB2 HB GE387 GE397))
              (case aF => exact (fun _ _ => trivial))
              (case aO => exact (zR HO_398004))
              (case aS => exact (below_size (zB2 HB GE387 GE397)))
              (case aL => have := LMc63.out; omega)
              intro v419 w77 ho hb hg hat
              rw [← Ny418.out] at ho;replace HO_6 := zN (Kd.R_over' (zR HO_6) (Kd.R_typed (zR HO_398004)) (by decide) hg);replace BK387 := zN (blk_grown (g := gb387) (o := .cells #[.string x388000_2, .string x388001_2, .string x388002_2, .string x388003_2, .slice none 0 0] 25 (0, 0)) (zK BK387) hg (Kd.R_ne HO_398004.out BK387.out (by decide)));replace BK397 := zN (blk_grown (g := gb397) (o := .cells #[.string t399, .string t405, .string t406, .string t407, u398004] 25 (0, 0)) (zK BK397) hg (Kd.R_ne HO_398004.out BK397.out (by decide)));replace HB := zN hb;have HO420 := zN ho;clear HO_398004;clear ho hb hg hat
              obtain ⟨Ao78, co78, eo78⟩ := Kd.R_slice HO420.out;(first | subst eo78 | (injection eo78 with f1_ f2_ f3_; have f4_ := f1_.symm; have f5_ := f3_.symm; clear f1_ f2_ f3_; subst f4_; subst f5_));refine hK.out _ _ ⟨(blk_cell BK397.out 0).trans rfl, (blk_cell BK397.out 1).trans rfl, (blk_cell BK397.out 2).trans rfl, (blk_cell BK397.out 3).trans rfl, (blk_cell BK397.out 4).trans rfl⟩ (fun hHeld => ?_);clear hK K;refine norm_ (a' := ?_) ?_ ?_;rotate_left
              · show Act.put _ (some 112) _ = _
                simp only [zP];rfl
              refine zU (i := 8) (N := some 113) #[true, true, true, true, true, true, true, true, true, false] rfl rfl HT_ ?_;refine last_ (i := 9) (N := none) #[true, true, true, true, true, true, true, true, true, true] rfl rfl (one_of HT_.out zQ) (by decide) (fun K hK => ?_);have hs79 : w77.cell? ⟨gb397, 4, none⟩ = some (u398004) := (blk_cell BK397.out 4).trans rfl;have hfs79 := blk_frozen BK397.out 4;have hns79_0 := NB387_397.out;have hms79_0 := NB397_387.out;refine skip_ (w1 := ?_) (by rfl) rfl ?_ ?_;rotate_left
              · go_simp;rfl
              refine hK.out _ _ ?_;clear hK K;refine done_ (done_of HT_.out zQ) ?_
              try go_wp2_with (first | ((with_reducible refine gate_callee (f := 25) rfl ?_); refine zg (some 115) Tryz.func25 #[.string t411] ?_; (with_reducible refine (head_lower.calls t411 t421 _ A64.out).mono ?_); rintro e w80 ⟨rfl, hb⟩; refine ⟨_, rfl, ?_⟩; replace HO_6 := zN (Kd.R_below (by (with_reducible repeat (first | apply Kd.R_alloc | apply Kd.R_drewN | apply Kd.R_drew)); exact (Kd.R_mono (Kd.R_far (p := ⟨gb397, 4, none⟩) (Kd.R_types HO_6.out BK397.out (by decide)) (fun _ hk => hk.2) (.slice Ao78 y418.length co78)) (fun _ h_ => h_.1))) hb); replace HO420 := zN (Kd.R_below (by (with_reducible repeat (first | apply Kd.R_alloc | apply Kd.R_drewN | apply Kd.R_drew)); exact (Kd.R_mono (Kd.R_far (p := ⟨gb397, 4, none⟩) (Kd.R_types HO420.out BK397.out (by decide)) (fun _ hk => hk.2) (.slice Ao78 y418.length co78)) (fun _ h_ => h_.1))) hb); replace BK387 := zN (blk_below (g := gb387) (o := .cells #[.string x388000_2, .string x388001_2, .string x388002_2, .string x388003_2, .slice none 0 0] 25 (0, 0)) (zF1 BK387 NB387_397) hb); replace BK397 := zN (blk_below (g := gb397) (o := .cells #[.string t399, .string t405, .string t406, .string t407, .slice Ao78 y418.length co78] 25 (0, 0)) (zF BK397) hb); replace HB := zk2 HB GE387 GE397 hb; (try clear hb); (try clear hb2); (try clear hk); (try clear hi)) | ((with_reducible refine gate_callee (f := 27) rfl ?_); refine zg (some 121) Tryz.func27 #[.string t414] ?_; (with_reducible refine (head_Host.calls kj52 t414 t422 false _ ?side1 A66.out).mono ?_); (case side1 => exact ML.keep HML.out (zB2 HB GE387 GE397)); rintro e w81 ⟨rfl, hb⟩; refine ⟨_, rfl, ?_⟩; replace HO_6 := zN (Kd.R_below (zR HO_6) hb); replace HO420 := zN (Kd.R_below (zR HO420) hb); replace BK387 := zj BK387 hb; replace BK397 := zj BK397 hb; replace HB := zk2 HB GE387 GE397 hb; (try clear hb); (try clear hb2); (try clear hk); (try clear hi); have hnb82 := NB387_397.out; have hnc82 := NB397_387.out; obtain ⟨hcz83_0, hcz83_1, hcz83_2, hcz83_3, hcz83_4, hfz83_0, hfz83_1, hfz83_2, hfz83_3, hfz83_4⟩ := zC5 BK387))
              (try ((with_reducible refine wp_goto ?_); refine Or.inl ⟨rfl, ?_⟩; refine hK0.out _ _ ?_; go_wp2));(try simp only [Exit.two_ret, Exit.noGoto_ret]);refine bodyPost_ret (results_ctt rfl _ _ gb387 25 #[.string (⟨#[]⟩ : ByteArray), .string (⟨#[]⟩ : ByteArray), .string (⟨#[]⟩ : ByteArray), .string (⟨#[]⟩ : ByteArray), .slice none 0 0] (0, 0) _ rfl (zF BK387) Tryz.underlying25 rfl zQ) rfl ?_;exact ⟨_, by first | rfl | (simp [errW_none, errW_some] <;> rfl) | (simp only [← hji2]; first | rfl | (simp [errW_none, errW_some] <;> rfl)) | (simp [*, errW_none, errW_some] <;> rfl), by first | exact Kd.R_nil _ _ _ _ _ | exact Kd.N_nil _ _ _ _ _ | exact Kd.V_nil _ _ _ _ _ | exact Kd.Q_nil _ _ _ _ _ | exact Kd.S_nil _ _ _ _ _, zB2 HB GE387 GE397⟩

end Go.Proofs.YtpigfccpogmeaaaGreatDoor.S
end
section
namespace Go.Proofs.YtpigfccpogmeaaaGreatDoor.HP
open Go.RowKit Go.Proofs.YtpigfccpogmeaaaGreatDoor.S Go.Proofs.YtpigfccpogmeaaaGreatDoorW.PrintWords Go.Proofs.YtpigfccpogmeaaaGreatDoorW.PrintLast Go.Proofs.YtpigfccpogmeaaaGreatDoorW.PrintMore
def joinL : List (List UInt8) → List UInt8
  | [] => []
  | [a] => a
  | a :: b :: r => a ++ 13 :: 10 :: joinL (b :: r)
theorem split_join : ∀ (ls : List (List UInt8)), ls ≠ [] → (∀ a ∈ ls, (13 : UInt8) ∉ a) → Lib.split (joinL ls) [13, 10] = ls
  | [], h, _ => absurd rfl h
  | [a], _, h => split_last a (h a (by simp))
  | a :: b :: r, _, h => by
    show Lib.split (a ++ 13 :: 10 :: joinL (b :: r)) [13, 10] = _
    rw [split_more _ _ (h a (by simp)), split_join (b :: r) (by simp) (fun x hx => h x (by simp [hx]))]
theorem occ_first {s : List UInt8} {j : Nat} {t : List UInt8} (h : s[j]? ≠ some 13) : Lib.occAt s (13 :: t) j = false := occ_not rfl j h
theorem occ_drop (a s sub : List UInt8) (j : Nat) : Lib.occAt (a ++ s) sub (a.length + j) = Lib.occAt s sub j := by
  unfold Lib.occAt;rw [List.drop_append, List.drop_eq_nil_of_le zO, List.nil_append, Nat.add_sub_cancel_left]
theorem join_occ : ∀ (ls : List (List UInt8)), (∀ a ∈ ls, (13 : UInt8) ∉ a ∧ a ≠ []) → ∀ (z : List UInt8) (j : Nat), j < (joinL ls).length → Lib.occAt (joinL ls ++ 13 :: z) [13, 10, 13, 10] j = false
  | [], _, _, j, hj => absurd hj (by simp [joinL])
  | [a], h, z, j, hj => by
    have hj' : j < a.length := hj;refine occ_first ?_
    show (a ++ 13 :: z)[j]? ≠ _
    rw [List.getElem?_append_left hj'];exact fun he => (h a (by simp)).1 (List.mem_of_getElem? he)
  | a :: b :: r, h, z, j, hj => by
    have ih := join_occ (b :: r) (fun x hx => h x (by simp [hx])) z;have hb := h b (by simp);have hne : ∃ x t, joinL (b :: r) = x :: t ∧ x ≠ 13 := by
      rcases hb2 : b with _ | ⟨x, t⟩
      · exact absurd hb2 hb.2
      have hx : x ≠ 13 := fun hx => hb.1 (by rw [hb2, hx]; simp)
      cases r with
      | nil => exact ⟨x, t, rfl, hx⟩
      | cons c r => exact ⟨x, _, rfl, hx⟩
    obtain ⟨x, t, hx, hx13⟩ := hne;have e : joinL (a :: b :: r) ++ 13 :: z = a ++ 13 :: 10 :: (joinL (b :: r) ++ 13 :: z) := by simp [joinL]
    rw [e]
    rcases Nat.lt_or_ge j a.length with h1 | h1
    · refine occ_first ?_;rw [List.getElem?_append_left h1];exact fun he => (h a (by simp)).1 (List.mem_of_getElem? he)
    obtain ⟨d, rfl⟩ : ∃ d, j = a.length + d := ⟨j - a.length, zO⟩;rw [occ_drop]
    rcases d with _ | _ | d
    · rw [hx];have hb2 : ((13 : UInt8) == x) = false := by simpa using fun h : (13 : UInt8) = x => hx13 h.symm
      show ([13, 10, 13, 10] : List UInt8).isPrefixOf (13 :: 10 :: x :: (t ++ 13 :: z)) = false
      simp only [List.isPrefixOf, hb2, Bool.false_and, Bool.and_false]
    · rw [hx];rfl
    have e2 : Lib.occAt (13 :: 10 :: (joinL (b :: r) ++ 13 :: z)) [13, 10, 13, 10] (d + 1 + 1) = Lib.occAt (joinL (b :: r) ++ 13 :: z) [13, 10, 13, 10] d := rfl;rw [e2];refine ih d ?_;simp [joinL] at hj;omega
theorem join_index (ls : List (List UInt8)) (h : ∀ a ∈ ls, (13 : UInt8) ∉ a ∧ a ≠ []) (z : List UInt8) : Lib.index (joinL ls ++ [13, 10, 13, 10] ++ z) [13, 10, 13, 10] = ((joinL ls).length : Int) := by
  have e : joinL ls ++ [13, 10, 13, 10] ++ z = joinL ls ++ 13 :: (10 :: 13 :: 10 :: z) := by simp
  rw [e];refine Lib.index_first (i := (joinL ls).length) (by simp) ?_ (fun j hj => join_occ ls h _ j hj);have := occ_drop (joinL ls) (13 :: (10 :: 13 :: 10 :: z)) [13, 10, 13, 10] 0;rw [Nat.add_zero] at this;rw [this];simp [Lib.occAt, List.isPrefixOf]
theorem join_flat : ∀ (ls : List (List UInt8)), ls ≠ [] → joinL ls ++ [13, 10] = ls.flatMap (fun a => a ++ [13, 10])
  | [], h => absurd rfl h
  | [a], _ => by simp [joinL]
  | a :: b :: r, _ => by
    have ih := join_flat (b :: r) (by simp);rw [List.flatMap_cons, ← ih];simp [joinL]
def hostL : List UInt8 := [104, 111, 115, 116]
def verL : List UInt8 := [72, 84, 84, 80, 47, 49, 46, 49]
def lineOf (f : List UInt8 × List UInt8) : List UInt8 := f.1 ++ 58 :: f.2
def low (f : List UInt8 × List UInt8) : List UInt8 := f.1.map lowB
def tv (f : List UInt8 × List UInt8) : List UInt8 := Lib.trimS f.2 [9, 32]
def fld (f : List UInt8 × List UInt8) : S88 := ⟨B (low f), B (tv f)⟩
def good (f : List UInt8 × List UInt8) : Prop := (lineOf f).length ≤ 1000000000 ∧ tokOk f.1 = true ∧ valOk (tv f) = true ∧ (13 : UInt8) ∉ f.2
theorem tok_no {n : List UInt8} (h : tokOk n = true) (c : UInt8) (hc : tokB c = false) : c ∉ n := by
  intro hm;unfold tokOk at h;rw [Bool.and_eq_true] at h;have := (List.all_eq_true.1 h.1) c hm;rw [hc] at this;cases this
theorem trim_le (l cs : List UInt8) : (Lib.trimS l cs).length ≤ l.length := by
  have dw : ∀ (p : UInt8 → Bool) (l : List UInt8), (l.dropWhile p).length ≤ l.length := fun p l => (List.dropWhile_suffix p).length_le
  unfold Lib.trimS Lib.trimRightS Lib.trimLeftS
  first
    | (have h1 := dw (cs.contains ·) l; have h2 := dw (cs.contains ·) (l.dropWhile (cs.contains ·)).reverse; have h3 := dw (cs.contains ·) l.reverse; have h4 := dw (cs.contains ·) (l.reverse.dropWhile (cs.contains ·)).reverse; simp only [List.length_reverse] at *; omega)
def hosts (fs : List (List UInt8 × List UInt8)) : Nat := fs.countP (fun f => low f == hostL)
def hostOf (hx : List UInt8 → ByteArray) : ByteArray → List (List UInt8 × List UInt8) → ByteArray
  | h, [] => h
  | h, f :: fs => hostOf hx (if low f = hostL then hx (tv f) else h) fs
abbrev HR := ByteArray × ByteArray × ByteArray × ByteArray × List S88 × Int × Int
def errR (e : Int) : HR := (B [], B [], B [], B [], [], 0, e)
def fin (E : Int) (m p q hh : ByteArray) (n : Nat) (ho : ByteArray) (fl : List S88) : HR :=
  if n = 1 then (if 32 < fl.length then errR 6 else (m, p, q, if hh.toList = [] then ho else hh, fl, E + 4, 0)) else errR 4
set_option maxHeartbeats 4000000 in
theorem loop_is (E : Int) (hE : 0 ≤ E ∧ E ≤ 100000) (m p q hh : ByteArray) (hx : List UInt8 → ByteArray) (lines : List ByteArray) (hll : lines.length ≤ 100000) :
    ∀ (fs : List (List UInt8 × List UInt8)) (pre : List ByteArray) (n : Nat) (ho : ByteArray) (acc : List S88),
      lines = pre ++ fs.map (fun f => B (lineOf f)) → (∀ f ∈ fs, good f) → (∀ f ∈ fs, low f = hostL → Ev (fun k => head_Host.f k (B (tv f))) (hx (tv f), true)) →
      n ≤ pre.length → acc.length ≤ pre.length →
      Ev (fun k => head_Parse.l0 k E lines (n : Int) (pre.length : Int) ho m p q hh acc) (fin E m p q hh (n + hosts fs) (hostOf hx ho fs) (acc ++ fs.map fld)) := by
  intro fs
  induction fs with
  | nil =>
    intro pre n ho acc hl _ _ hn ha;have hw : wrap64 (E + 4) = E + 4 := by unfold wrap64; omega
    rw [List.map_nil, List.append_nil] at hl;subst hl;refine Ev.step (fun k => by simp only [head_Parse.l0]; rfl) (Ev.neg zO ?_);rw [show hosts [] = 0 from rfl, Nat.add_zero, List.map_nil, List.append_nil, hw]
    show Ev _ (fin E m p q hh n ho acc)
    unfold fin;by_cases h1 : n = 1;rotate_left
    · rw [zn h1];exact Ev.neg zO (Ev.ret rfl)
    rw [zp h1];refine Ev.pos zO ?_;by_cases h2 : 32 < acc.length
    · rw [zp h2];exact Ev.pos zO (Ev.ret rfl)
    rw [zn h2];refine Ev.neg zO ?_;by_cases h3 : hh.toList = []
    · rw [zp h3];simp only [zp h3];exact Ev.ret rfl
    rw [zn h3];simp only [zn h3];exact Ev.ret rfl
  | cons f fs ih =>
    intro pre n ho acc hl hg hh' hn ha;obtain ⟨g1, g2, g3, g4⟩ := hg f (by simp);have hlen : pre.length + (fs.length + 1) = lines.length := by rw [hl]; simp
    have hrd : rdOf ByteArray.empty lines (pre.length : Int) = B (lineOf f) := by
      rw [hl];simp [rdOf]
    have l1 : f.1.length + 1 + f.2.length ≤ 1000000000 := by
      have := g1;simp [lineOf] at this;omega
    have c1 : strings_Cut.f (B (lineOf f)) (⟨#[58]⟩ : ByteArray) = some (B f.1, B f.2, true) := by
      have := Cut_is (lineOf f) [58] zO;rw [show Lib.cut (lineOf f) [58] = (f.1, f.2, true) from cut_one f.1 f.2 58 (tok_no g2 58 (by decide))] at this;exact this
    have t1 : strings_Trim.f (B f.2) (⟨#[9, 32]⟩ : ByteArray) = some (B (tv f)) := Trim_is f.2 [9, 32] zO (by decide) (by decide);have tk := token_is f.1 zO;rw [g2] at tk;have htl := trim_le f.2 [9, 32];have vl := value_is (tv f) (by unfold tv; omega);rw [g3] at vl;have lo : head_lower.f (B f.1) = some (B (low f)) := Lower_is f.1 zO;have hw1 : wrap64 ((pre.length : Int) + 1) = ((pre ++ [B (lineOf f)]).length : Int) := by
      rw [List.length_append];unfold wrap64;simp;omega
    have hw2 : wrap64 ((n : Int) + 1) = ((n + 1 : Nat) : Int) := by unfold wrap64; omega
    have hl' : lines = (pre ++ [B (lineOf f)]) ++ fs.map (fun f => B (lineOf f)) := by rw [hl]; simp
    have hg' : ∀ x ∈ fs, good x := fun x hx => hg x (by simp [hx])
    have hh2 : ∀ x ∈ fs, low x = hostL → Ev (fun k => head_Host.f k (B (tv x))) (hx (tv x), true) := fun x hx' => hh' x (by simp [hx'])
    have hp : (pre ++ [B (lineOf f)]).length = pre.length + 1 := by simp
    have hac2 : (acc ++ [fld f]).length ≤ (pre ++ [B (lineOf f)]).length := by rw [hp, List.length_append]; exact Nat.succ_le_succ ha
    have hn1 : n + 1 ≤ (pre ++ [B (lineOf f)]).length := by rw [hp]; exact Nat.succ_le_succ hn
    have hn0 : n ≤ (pre ++ [B (lineOf f)]).length := by rw [hp]; exact Nat.le_succ_of_le hn
    have hac : acc ++ (f :: fs).map fld = (acc ++ [fld f]) ++ fs.map fld := by simp
    refine Ev.step (fun k => by simp only [head_Parse.l0]; rfl) ?_;refine Ev.pos zO (Ev.pos zO ?_);rw [hrd];refine Ev.call c1 (Ev.call t1 (Ev.pos rfl (Ev.bind tk (Ev.pos rfl (Ev.bind vl ?_)))));refine Ev.step (fun k => by simp only [head_Parse.j2]; rfl) ?_;refine Ev.neg (by decide) (Ev.call lo (Ev.pos zO (Ev.put (Ev.call lo ?_))));rw [hac];by_cases hq : low f = hostL
    · refine Ev.pos (by rw [B_toList]; exact hq) (Ev.bind (hh' f (by simp) hq) (Ev.pos rfl ?_));have h := ih (pre ++ [B (lineOf f)]) (n + 1) (hx (tv f)) (acc ++ [fld f]) hl' hg' hh2 hn1 hac2;rw [show hostOf hx ho (f :: fs) = hostOf hx (hx (tv f)) fs by simp [hostOf, hq], show n + hosts (f :: fs) = n + 1 + hosts fs by simp [hosts, hq]; omega];rw [hw1, hw2];exact h
    refine Ev.neg (by rw [B_toList]; exact hq) ?_;have h := ih (pre ++ [B (lineOf f)]) n ho (acc ++ [fld f]) hl' hg' hh2 hn0 hac2;rw [show hostOf hx ho (f :: fs) = hostOf hx ho fs by simp [hostOf, hq], show n + hosts (f :: fs) = n + hosts fs by simp [hosts, hq]];rw [hw1];exact h
def firstL (m t : List UInt8) : List UInt8 := m ++ 32 :: (t ++ 32 :: verL)
def linesL (m t : List UInt8) (fs : List (List UInt8 × List UInt8)) : List (List UInt8) := firstL m t :: fs.map lineOf
def headL (m t : List UInt8) (fs : List (List UInt8 × List UInt8)) : List UInt8 := joinL (linesL m t fs) ++ [13, 10, 13, 10]
theorem lines_ok (m t : List UInt8) (fs : List (List UInt8 × List UInt8)) (hm : tokOk m = true) (ht : (13 : UInt8) ∉ t) (hg : ∀ f ∈ fs, good f) : ∀ a ∈ linesL m t fs, (13 : UInt8) ∉ a ∧ a ≠ [] := by
  intro a ha
  rcases List.mem_cons.1 ha with rfl | ha
  · have h13 := tok_no hm 13 (by decide);refine ⟨?_, by simp [firstL]⟩;simp [firstL, verL, h13, ht]
  obtain ⟨f, hf, rfl⟩ := List.mem_map.1 ha;obtain ⟨g1, g2, g3, g4⟩ := hg f hf;have h13 := tok_no g2 13 (by decide);exact ⟨by simp [lineOf, h13, g4], by simp [lineOf]⟩
theorem head_flat (m t : List UInt8) (fs : List (List UInt8 × List UInt8)) : headL m t fs = (linesL m t fs).flatMap (fun a => a ++ [13, 10]) ++ [13, 10] := by
  rw [← join_flat _ (by simp [linesL])];simp [headL]
theorem parse_is (m t : List UInt8) (p q hh : ByteArray) (fs : List (List UInt8 × List UInt8)) (hx : List UInt8 → ByteArray) (z : List UInt8) (hz : z.length ≤ 1000000000)
    (hm : tokOk m = true) (ht13 : (13 : UInt8) ∉ t) (ht32 : (32 : UInt8) ∉ t) (ht : Ev (fun k => head_target.f k (B t)) (p, q, hh, true))
    (hg : ∀ f ∈ fs, good f) (hh' : ∀ f ∈ fs, low f = hostL → Ev (fun k => head_Host.f k (B (tv f))) (hx (tv f), true)) (hL : (headL m t fs).length ≤ 2048) (hn : fs.length ≤ 5000) :
    Ev (fun k => head_Parse.f k (bytesOf (B (headL m t fs ++ z)))) (fin ((joinL (linesL m t fs)).length : Int) (B m) p q hh (hosts fs) (hostOf hx (B []) fs) (fs.map fld)) := by
  have hok := lines_ok m t fs hm ht13 hg;have hlen : (headL m t fs).length = (joinL (linesL m t fs)).length + 4 := by simp [headL]
  generalize hN : (headL m t fs ++ z).length = N;have hN2 : N = (headL m t fs).length + z.length := by rw [← hN, List.length_append]
  have hl : ((headL m t fs ++ z).map (fun b => (b.toNat : Int))).length = N := by rw [List.length_map, hN]
  obtain ⟨M, hM, hM1, hM2⟩ : ∃ M : Nat, mn (N : Int) 2048 = (M : Int) ∧ M ≤ N ∧ (headL m t fs).length ≤ M := by
    unfold mn
    split
    · exact ⟨2048, rfl, zO, zO⟩
    exact ⟨N, rfl, zh _, zO⟩
  unfold head_Parse.f;rw [N8_B, hl, hM];refine Ev.pos zO (Ev.pos zO ?_);rw [Int.toNat_natCast, ← List.map_take];have htk : (headL m t fs ++ z).take M = joinL (linesL m t fs) ++ [13, 10, 13, 10] ++ z.take (M - (headL m t fs).length) := by
    rw [List.take_append, List.take_of_length_le hM2];rfl
  have hix : bytes_Index.f (((headL m t fs ++ z).take M).map (fun b => (b.toNat : Int))) ([13, 10, 13, 10] : List Int) = some ((joinL (linesL m t fs)).length : Int) := by
    rw [show ([13, 10, 13, 10] : List Int) = ([13, 10, 13, 10] : List UInt8).map (fun b => (b.toNat : Int)) from rfl, Index_is _ _ (by rw [List.length_take]; omega) (by decide) (by decide), htk, join_index _ hok]
  refine Ev.call hix (Ev.neg zO (Ev.pos zO (Ev.pos zO ?_)));rw [Int.toNat_natCast, ← List.map_take, strOf_N8];have htj : (headL m t fs ++ z).take (joinL (linesL m t fs)).length = joinL (linesL m t fs) := by
    unfold headL;rw [List.append_assoc, List.take_left]
  rw [htj];have hsp : strings_Split.f (B (joinL (linesL m t fs))) (⟨#[13, 10]⟩ : ByteArray) = some (B (firstL m t) :: fs.map (fun f => B (lineOf f))) := by
    have := Split_is (joinL (linesL m t fs)) [13, 10] zO (by decide);rw [split_join _ (by simp [linesL]) (fun a ha => (hok a ha).1)] at this;rw [show (linesL m t fs).map B = B (firstL m t) :: fs.map (fun f => B (lineOf f)) by simp [linesL]] at this;exact this
  have hfl : (firstL m t).length ≤ (joinL (linesL m t fs)).length := by
    unfold linesL;cases fs.map lineOf with
    | nil => exact zh _
    | cons b r => simp [joinL]
  have hfl2 : (t ++ 32 :: verL).length ≤ (firstL m t).length := by simp [firstL]; omega
  have c1 : strings_Cut.f (B (firstL m t)) (⟨#[32]⟩ : ByteArray) = some (B m, B (t ++ 32 :: verL), true) := by
    have := Cut_is (firstL m t) [32] zO;rw [show Lib.cut (firstL m t) [32] = (m, t ++ 32 :: verL, true) from cut_one _ _ 32 (tok_no hm 32 (by decide))] at this;exact this
  have c2 : strings_Cut.f (B (t ++ 32 :: verL)) (⟨#[32]⟩ : ByteArray) = some (B t, B verL, true) := by
    have := Cut_is (t ++ 32 :: verL) [32] zO;rw [cut_one _ _ 32 ht32] at this;exact this
  have hml : m.length ≤ (firstL m t).length := by simp [firstL]
  have tk := token_is m zO;rw [hm] at tk;refine Ev.call hsp (Ev.pos (by simp) (Ev.call c1 (Ev.call c2 (Ev.bind ht (Ev.pos rfl (Ev.bind tk (Ev.pos rfl ?_)))))));refine Ev.step (fun k => by simp only [head_Parse.j0]; rfl) ?_;refine Ev.neg (by rw [B_toList]; decide) ?_;have h := loop_is ((joinL (linesL m t fs)).length : Int) ⟨zO, zO⟩ (B m) p q hh hx (B (firstL m t) :: fs.map (fun f => B (lineOf f))) (by simp; omega) fs [B (firstL m t)] 0 (B []) [] rfl hg hh' zO (by simp);rw [Nat.zero_add, List.nil_append] at h;exact h
end Go.Proofs.YtpigfccpogmeaaaGreatDoor.HP
end
