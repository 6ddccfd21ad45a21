/- Walks and plain facts, joined out of several texts: what the row of PlaneAny leads to. -/
import Derived.Test.YtabkdmfnafeaeaaDoorPkPlaneAny2
import Derived.Lib.LazyBuf
section
namespace Go.Proofs.YtabkdmfnafeaeaaDoor.S
open Go.RowKit Go.Proofs.YtabkdmfnafeaeaaDoorW.PrintWords Go.Proofs.YtabkdmfnafeaeaaDoorW.PrintLast Go.Proofs.YtabkdmfnafeaeaaDoorW.PrintMore
attribute [local go_sem] max2_int min2_int max_two min_two max_three min_three max_four min_four   -- for this text's walks alone
attribute [local go_sem] fbin_eql fbin_neq fbin_lss fbin_leq fbin_gtr fbin_geq frun_add frun_sub frun_mul frun_quo frun_store fun_neg fcv_int fcv_same fb92 fb116
set_option linter.unusedVariables false
set_option linter.unusedSimpArgs false

mutual
def head_Parse.j0 : Nat → Int → List ByteArray → Int → Int → ByteArray → ByteArray → Bool → ByteArray → ByteArray → ByteArray → ByteArray → Option (ByteArray × ByteArray × ByteArray × ByteArray × (List (S38)) × Int × Int)
  | 0, _, _, _, _, _, _, _, _, _, _, _ => none
  | k + 1, x5, x6, x9, x10, x11, x12, x75, x224000, x224001, x224002, x224003 => if x75 = true then (some ((⟨#[]⟩ : ByteArray), (⟨#[]⟩ : ByteArray), (⟨#[]⟩ : ByteArray), (⟨#[]⟩ : ByteArray), ([] : List (S38)), 0, 4)) else (head_Parse.l0 k x5 x6 x9 x10 x11 x12 x224001 x224002 x224003 ([] : List (S38)))
def head_Parse.l0 : Nat → Int → List ByteArray → Int → Int → ByteArray → ByteArray → ByteArray → ByteArray → ByteArray → List (S38) → Option (ByteArray × ByteArray × ByteArray × ByteArray × (List (S38)) × Int × Int)
  | 0, _, _, _, _, _, _, _, _, _, _ => none
  | k + 1, x5, x6, x9, x10, x11, x224000, x224001, x224002, x224003, x224004 => if x10 < (x6.length : Int) then (if 0 ≤ x10 then ((strings_Cut.f (rdOf ByteArray.empty x6 x10) (⟨#[58]⟩ : ByteArray)).bind fun bt237 => ((strings_Trim.f bt237.2.1 (⟨#[9, 32]⟩ : ByteArray)).bind fun t240 => (if bt237.2.2 = true then ((head_token.f k bt237.1).bind fun t241 => (if t241 = true then ((head_value.f k t240).bind fun t242 => (head_Parse.j2 k x5 x6 x9 x10 x11 bt237.1 t240 (!t242) x224000 x224001 x224002 x224003 x224004)) else (head_Parse.j2 k x5 x6 x9 x10 x11 bt237.1 t240 true x224000 x224001 x224002 x224003 x224004))) else (head_Parse.j2 k x5 x6 x9 x10 x11 bt237.1 t240 true x224000 x224001 x224002 x224003 x224004)))) else (none)) else (if x9 = 1 then (if (x224004.length : Int) > 32 then (some ((⟨#[]⟩ : ByteArray), (⟨#[]⟩ : ByteArray), (⟨#[]⟩ : ByteArray), (⟨#[]⟩ : ByteArray), ([] : List (S38)), 0, 6)) else (if x224003.toList = ([] : List UInt8) then (some (x224000, x224001, x224002, x11, x224004, wrap64 (x5 + 4), 0)) else (some (x224000, x224001, x224002, x224003, x224004, wrap64 (x5 + 4), 0)))) else (some ((⟨#[]⟩ : ByteArray), (⟨#[]⟩ : ByteArray), (⟨#[]⟩ : ByteArray), (⟨#[]⟩ : ByteArray), ([] : List (S38)), 0, 4)))
def head_Parse.j2 : Nat → Int → List ByteArray → Int → Int → ByteArray → ByteArray → ByteArray → Bool → ByteArray → ByteArray → ByteArray → ByteArray → List (S38) → Option (ByteArray × ByteArray × ByteArray × ByteArray × (List (S38)) × Int × Int)
  | 0, _, _, _, _, _, _, _, _, _, _, _, _, _ => none
  | k + 1, x5, x6, x9, x10, x11, x18, x19, x104, x224000, x224001, x224002, x224003, x224004 => if x104 = true then (some ((⟨#[]⟩ : ByteArray), (⟨#[]⟩ : ByteArray), (⟨#[]⟩ : ByteArray), (⟨#[]⟩ : ByteArray), ([] : List (S38)), 0, 4)) else ((head_lower.f x18).bind fun t243 => (if x224004.length < 4398046511104 then ((some (x224004 ++ [(⟨t243, x19⟩ : S38)] : List (S38))).bind fun y244 => ((head_lower.f x18).bind fun t247 => (if t247.toList = ([104, 111, 115, 116] : List UInt8) then ((head_Host.f k x19).bind fun bt248 => (if bt248.2 = true then (head_Parse.l0 k x5 x6 (wrap64 (x9 + 1)) (wrap64 (x10 + 1)) bt248.1 x224000 x224001 x224002 x224003 y244) else (some ((⟨#[]⟩ : ByteArray), (⟨#[]⟩ : ByteArray), (⟨#[]⟩ : ByteArray), (⟨#[]⟩ : ByteArray), ([] : List (S38)), 0, 4)))) else (head_Parse.l0 k x5 x6 x9 (wrap64 (x10 + 1)) x11 x224000 x224001 x224002 x224003 y244)))) else (none)))
end
def head_Parse.f (k : Nat) (l0 : List Int) : Option (ByteArray × ByteArray × ByteArray × ByteArray × (List (S38)) × Int × Int) := if 0 ≤ (mn (l0.length : Int) 2048) then (if (mn (l0.length : Int) 2048) ≤ (l0.length : Int) then ((bytes_Index.f (l0.take ((mn (l0.length : Int) 2048) : Int).toNat) (([13, 10, 13, 10] : List Int))).bind fun t218 => (if t218 < 0 then (if (l0.length : Int) < 2048 then (some ((⟨#[]⟩ : ByteArray), (⟨#[]⟩ : ByteArray), (⟨#[]⟩ : ByteArray), (⟨#[]⟩ : ByteArray), ([] : List (S38)), 0, 3)) else (some ((⟨#[]⟩ : ByteArray), (⟨#[]⟩ : ByteArray), (⟨#[]⟩ : ByteArray), (⟨#[]⟩ : ByteArray), ([] : List (S38)), 0, 6))) else (if 0 ≤ t218 then (if t218 ≤ (l0.length : Int) then ((strings_Split.f (strOfNums (l0.take (t218 : Int).toNat)) (⟨#[13, 10]⟩ : ByteArray)).bind fun t220 => (if 0 < (t220.length : Int) then ((strings_Cut.f (rdOf ByteArray.empty t220 0) (⟨#[32]⟩ : ByteArray)).bind fun bt225 => ((strings_Cut.f bt225.2.1 (⟨#[32]⟩ : ByteArray)).bind fun bt228 => ((head_target.f k bt228.1).bind fun bt231 => (if bt231.2.2.2 = true then ((head_token.f k bt225.1).bind fun t235 => (if t235 = true then (head_Parse.j0 k t218 t220 0 1 (⟨#[]⟩ : ByteArray) bt225.1 (bt228.2.1.toList != ([72, 84, 84, 80, 47, 49, 46, 49] : List UInt8)) (⟨#[]⟩ : ByteArray) bt231.1 bt231.2.1 bt231.2.2.1) else (head_Parse.j0 k t218 t220 0 1 (⟨#[]⟩ : ByteArray) bt225.1 true (⟨#[]⟩ : ByteArray) bt231.1 bt231.2.1 bt231.2.2.1))) else (head_Parse.j0 k t218 t220 0 1 (⟨#[]⟩ : ByteArray) bt225.1 true (⟨#[]⟩ : ByteArray) bt231.1 bt231.2.1 bt231.2.2.1))))) else (none))) else (none)) else (none)))) else (none)) else (none)
theorem head_Parse.mono_l : ∀ k, (∀ y0 y1 y2 y3 y4 y5 y6 y7 y8 y9 y10, LeO (head_Parse.j0 k y0 y1 y2 y3 y4 y5 y6 y7 y8 y9 y10) (head_Parse.j0 (k + 1) y0 y1 y2 y3 y4 y5 y6 y7 y8 y9 y10)) ∧ (∀ y0 y1 y2 y3 y4 y5 y6 y7 y8 y9, LeO (head_Parse.l0 k y0 y1 y2 y3 y4 y5 y6 y7 y8 y9) (head_Parse.l0 (k + 1) y0 y1 y2 y3 y4 y5 y6 y7 y8 y9)) ∧ (∀ y0 y1 y2 y3 y4 y5 y6 y7 y8 y9 y10 y11 y12, LeO (head_Parse.j2 k y0 y1 y2 y3 y4 y5 y6 y7 y8 y9 y10 y11 y12) (head_Parse.j2 (k + 1) y0 y1 y2 y3 y4 y5 y6 y7 y8 y9 y10 y11 y12))
  | 0 => ⟨fun _ _ _ _ _ _ _ _ _ _ _ r h => by simp [head_Parse.j0] at h, fun _ _ _ _ _ _ _ _ _ _ r h => by simp [head_Parse.l0] at h, fun _ _ _ _ _ _ _ _ _ _ _ _ _ r h => by simp [head_Parse.j2] at h⟩
  | k + 1 => by
    obtain ⟨ih0, ih1, ih2⟩ := head_Parse.mono_l k
    refine ⟨?_, ?_, ?_⟩
    · intro y0 y1 y2 y3 y4 y5 y6 y7 y8 y9 y10
      unfold head_Parse.j0
      repeat' first
      | (with_reducible exact ih0 _ _ _ _ _ _ _ _ _ _ _)
      | (with_reducible exact ih1 _ _ _ _ _ _ _ _ _ _)
      | (with_reducible exact ih2 _ _ _ _ _ _ _ _ _ _ _ _ _)
      | (with_reducible exact head_Host.mono _ _)
      | (with_reducible exact head_target.mono _ _)
      | (with_reducible exact head_token.mono _ _)
      | (with_reducible exact head_value.mono _ _)
      | (with_reducible exact LeO.refl _)
      | (with_reducible exact LeO.none _)
      | (with_reducible refine LeO.ite ?_ ?_)
      | (with_reducible refine LeO.bind ?_ (fun _ => ?_))
      | exact ih0 _ _ _ _ _ _ _ _ _ _ _
      | exact ih1 _ _ _ _ _ _ _ _ _ _
      | exact ih2 _ _ _ _ _ _ _ _ _ _ _ _ _
      | exact head_Host.mono _ _
      | exact head_target.mono _ _
      | exact head_token.mono _ _
      | exact head_value.mono _ _
      | exact LeO.none _
      | refine LeO.ite ?_ ?_
      | refine LeO.bind ?_ (fun _ => ?_)
    · intro y0 y1 y2 y3 y4 y5 y6 y7 y8 y9
      unfold head_Parse.l0
      repeat' first
      | (with_reducible exact ih0 _ _ _ _ _ _ _ _ _ _ _)
      | (with_reducible exact ih1 _ _ _ _ _ _ _ _ _ _)
      | (with_reducible exact ih2 _ _ _ _ _ _ _ _ _ _ _ _ _)
      | (with_reducible exact head_Host.mono _ _)
      | (with_reducible exact head_target.mono _ _)
      | (with_reducible exact head_token.mono _ _)
      | (with_reducible exact head_value.mono _ _)
      | (with_reducible exact LeO.refl _)
      | (with_reducible exact LeO.none _)
      | (with_reducible refine LeO.ite ?_ ?_)
      | (with_reducible refine LeO.bind ?_ (fun _ => ?_))
      | exact ih0 _ _ _ _ _ _ _ _ _ _ _
      | exact ih1 _ _ _ _ _ _ _ _ _ _
      | exact ih2 _ _ _ _ _ _ _ _ _ _ _ _ _
      | exact head_Host.mono _ _
      | exact head_target.mono _ _
      | exact head_token.mono _ _
      | exact head_value.mono _ _
      | exact LeO.none _
      | refine LeO.ite ?_ ?_
      | refine LeO.bind ?_ (fun _ => ?_)
    · intro y0 y1 y2 y3 y4 y5 y6 y7 y8 y9 y10 y11 y12
      unfold head_Parse.j2
      repeat' first
      | (with_reducible exact ih0 _ _ _ _ _ _ _ _ _ _ _)
      | (with_reducible exact ih1 _ _ _ _ _ _ _ _ _ _)
      | (with_reducible exact ih2 _ _ _ _ _ _ _ _ _ _ _ _ _)
      | (with_reducible exact head_Host.mono _ _)
      | (with_reducible exact head_target.mono _ _)
      | (with_reducible exact head_token.mono _ _)
      | (with_reducible exact head_value.mono _ _)
      | (with_reducible exact LeO.refl _)
      | (with_reducible exact LeO.none _)
      | (with_reducible refine LeO.ite ?_ ?_)
      | (with_reducible refine LeO.bind ?_ (fun _ => ?_))
      | exact ih0 _ _ _ _ _ _ _ _ _ _ _
      | exact ih1 _ _ _ _ _ _ _ _ _ _
      | exact ih2 _ _ _ _ _ _ _ _ _ _ _ _ _
      | exact head_Host.mono _ _
      | exact head_target.mono _ _
      | exact head_token.mono _ _
      | exact head_value.mono _ _
      | exact LeO.none _
      | refine LeO.ite ?_ ?_
      | refine LeO.bind ?_ (fun _ => ?_)
theorem head_Parse.mono : ∀ a0 k, LeO (head_Parse.f k a0) (head_Parse.f (k + 1) a0) := by
  intro a0 k
  obtain ⟨ih0, ih1, ih2⟩ := head_Parse.mono_l k
  unfold head_Parse.f
  repeat' first
      | (with_reducible exact ih0 _ _ _ _ _ _ _ _ _ _ _)
      | (with_reducible exact ih1 _ _ _ _ _ _ _ _ _ _)
      | (with_reducible exact ih2 _ _ _ _ _ _ _ _ _ _ _ _ _)
      | (with_reducible exact head_Host.mono _ _)
      | (with_reducible exact head_target.mono _ _)
      | (with_reducible exact head_token.mono _ _)
      | (with_reducible exact head_value.mono _ _)
      | (with_reducible exact LeO.refl _)
      | (with_reducible exact LeO.none _)
      | (with_reducible refine LeO.ite ?_ ?_)
      | (with_reducible refine LeO.bind ?_ (fun _ => ?_))
      | exact ih0 _ _ _ _ _ _ _ _ _ _ _
      | exact ih1 _ _ _ _ _ _ _ _ _ _
      | exact ih2 _ _ _ _ _ _ _ _ _ _ _ _ _
      | exact head_Host.mono _ _
      | exact head_target.mono _ _
      | exact head_token.mono _ _
      | exact head_value.mono _ _
      | exact LeO.none _
      | refine LeO.ite ?_ ?_
      | refine LeO.bind ?_ (fun _ => ?_)
def head_Parse.T19 : Bool × List (List Nat × List Nat) := (true, [([], []), ([0], [0]), ([], []), ([2], [2]), ([], []), ([3, 4], [3, 4]), ([5], [5]), ([1, 6, 3], [1, 6]), ([0, 1, 2, 3, 4, 5, 6, 7], []), ([8, 7, 7, 0, 1, 2, 3, 4, 5, 6, 7], [7, 8])])
def head_Parse.B19 : List Nat := [0, 1, 0, 4, 0, 28, 60, 127, 255, 511]
theorem head_Parse.tab19 : rtab .any (opsOf Tryd.f14 19) = head_Parse.T19 := by kernel_rfl
theorem head_Parse.bits19 : waitsOk head_Parse.T19.2 head_Parse.B19 = true := by kernel_rfl
set_option maxRecDepth 100000 in
theorem head_Parse.loop1 {P : Program} {r1 : Code} {Q : Exit → Act → World → Prop} {K0 : Act → World → Prop} {w : World} {e0 e1 e2 e3 e4 e5 e6 e7 e8 e9 e10 e11 e12 e13 e14 e15 e16 e17 e18 e19 e20 e21 e22 e23 e24 e25 e26 e27 e28 e29 e30 e31 e32 e33 e34 e35 e36 e37 e38 e39 e40 e41 e42 e43 e44 e45 e46 e47 e48 e49 e50 e51 e52 e53 e54 e55 e56 e57 e58 e59 e60 e61 e62 e63 e64 e65 e66 e67 e68 e69 e70 e71 e72 e73 e74 e75 e76 e77 e78 e79 e80 e81 e82 e83 e84 e85 e86 e87 e88 e89 e90 e91 e92 e93 e94 e95 e96 e97 e98 e99 e100 e101 e102 e103 e104 e105 e106 e107 e108 e109 e110 e111 e112 e113 e114 e115 e116 e117 e118 e119 e120 e121 e122 e123 e124 e125 e126 e127 e128 e129 e130 e131 e132 e133 e134 e135 e136 e137 e138 e139 e140 e141 e142 e143 : Value} (n₀ : Nat) (rel : Nat → Value → Value → Value → World → Prop) (h₀ : rel n₀ e9 e10 e11 w)
    (round : ∀ (gk : Nat) (wr : World) (u9 u10 u11 u18 u19 u20 u78 u79 u80 u81 u82 u83 u84 u85 u86 u87 u88 u89 u90 u91 u92 u93 u94 u95 u96 u97 u98 u99 u100 u101 u102 u103 u104 u105 u106 u107 u108 u109 u110 u111 u112 u113 u114 u115 u116 u117 u118 u119 u120 u121 u122 u123 u124 u125 u126 u127 : Value), rel gk u9 u10 u11 wr → ∀ (J : Nat → Act → World → Prop) (K : Act → World → Prop), (∀ k' a' w', (∃ u9 u10 u11 u18 u19 u20 u78 u79 u80 u81 u82 u83 u84 u85 u86 u87 u88 u89 u90 u91 u92 u93 u94 u95 u96 u97 u98 u99 u100 u101 u102 u103 u104 u105 u106 u107 u108 u109 u110 u111 u112 u113 u114 u115 u116 u117 u118 u119 u120 u121 u122 u123 u124 u125 u126 u127 : Value, rel k' u9 u10 u11 w' ∧ a' = { tmps := #[e0, e1, e2, e3, e4, e5, e6, e7, e8, u9, u10, u11, e12, e13, e14, e15, e16, e17, u18, u19, u20, e21, e22, e23, e24, e25, e26, e27, e28, e29, e30, e31, e32, e33, e34, e35, e36, e37, e38, e39, e40, e41, e42, e43, e44, e45, e46, e47, e48, e49, e50, e51, e52, e53, e54, e55, e56, e57, e58, e59, e60, e61, e62, e63, e64, e65, e66, e67, e68, e69, e70, e71, e72, e73, e74, e75, e76, e77, u78, u79, u80, u81, u82, u83, u84, u85, u86, u87, u88, u89, u90, u91, u92, u93, u94, u95, u96, u97, u98, u99, u100, u101, u102, u103, u104, u105, u106, u107, u108, u109, u110, u111, u112, u113, u114, u115, u116, u117, u118, u119, u120, u121, u122, u123, u124, u125, u126, u127, e128, e129, e130, e131, e132, e133, e134, e135, e136, e137, e138, e139, e140, e141, e142, e143], defers := [] }) → J k' a' w') → (∀ a' w', Handed J gk a' w' → K a' w') → r1.wp P (Exit.two Q K0 K) { tmps := #[e0, e1, e2, e3, e4, e5, e6, e7, e8, u9, u10, u11, e12, e13, e14, e15, e16, e17, u18, u19, u20, e21, e22, e23, e24, e25, e26, e27, e28, e29, e30, e31, e32, e33, e34, e35, e36, e37, e38, e39, e40, e41, e42, e43, e44, e45, e46, e47, e48, e49, e50, e51, e52, e53, e54, e55, e56, e57, e58, e59, e60, e61, e62, e63, e64, e65, e66, e67, e68, e69, e70, e71, e72, e73, e74, e75, e76, e77, u78, u79, u80, u81, u82, u83, u84, u85, u86, u87, u88, u89, u90, u91, u92, u93, u94, u95, u96, u97, u98, u99, u100, u101, u102, u103, u104, u105, u106, u107, u108, u109, u110, u111, u112, u113, u114, u115, u116, u117, u118, u119, u120, u121, u122, u123, u124, u125, u126, u127, e128, e129, e130, e131, e132, e133, e134, e135, e136, e137, e138, e139, e140, e141, e142, e143], defers := [] } wr) :
    Scope.LW P r1 K0 Q { tmps := #[e0, e1, e2, e3, e4, e5, e6, e7, e8, e9, e10, e11, e12, e13, e14, e15, e16, e17, e18, e19, e20, e21, e22, e23, e24, e25, e26, e27, e28, e29, e30, e31, e32, e33, e34, e35, e36, e37, e38, e39, e40, e41, e42, e43, e44, e45, e46, e47, e48, e49, e50, e51, e52, e53, e54, e55, e56, e57, e58, e59, e60, e61, e62, e63, e64, e65, e66, e67, e68, e69, e70, e71, e72, e73, e74, e75, e76, e77, e78, e79, e80, e81, e82, e83, e84, e85, e86, e87, e88, e89, e90, e91, e92, e93, e94, e95, e96, e97, e98, e99, e100, e101, e102, e103, e104, e105, e106, e107, e108, e109, e110, e111, e112, e113, e114, e115, e116, e117, e118, e119, e120, e121, e122, e123, e124, e125, e126, e127, e128, e129, e130, e131, e132, e133, e134, e135, e136, e137, e138, e139, e140, e141, e142, e143], defers := [] } w := by
  refine ⟨fun k' a' w' => ∃ u9 u10 u11 u18 u19 u20 u78 u79 u80 u81 u82 u83 u84 u85 u86 u87 u88 u89 u90 u91 u92 u93 u94 u95 u96 u97 u98 u99 u100 u101 u102 u103 u104 u105 u106 u107 u108 u109 u110 u111 u112 u113 u114 u115 u116 u117 u118 u119 u120 u121 u122 u123 u124 u125 u126 u127 : Value, rel k' u9 u10 u11 w' ∧ a' = { tmps := #[e0, e1, e2, e3, e4, e5, e6, e7, e8, u9, u10, u11, e12, e13, e14, e15, e16, e17, u18, u19, u20, e21, e22, e23, e24, e25, e26, e27, e28, e29, e30, e31, e32, e33, e34, e35, e36, e37, e38, e39, e40, e41, e42, e43, e44, e45, e46, e47, e48, e49, e50, e51, e52, e53, e54, e55, e56, e57, e58, e59, e60, e61, e62, e63, e64, e65, e66, e67, e68, e69, e70, e71, e72, e73, e74, e75, e76, e77, u78, u79, u80, u81, u82, u83, u84, u85, u86, u87, u88, u89, u90, u91, u92, u93, u94, u95, u96, u97, u98, u99, u100, u101, u102, u103, u104, u105, u106, u107, u108, u109, u110, u111, u112, u113, u114, u115, u116, u117, u118, u119, u120, u121, u122, u123, u124, u125, u126, u127, e128, e129, e130, e131, e132, e133, e134, e135, e136, e137, e138, e139, e140, e141, e142, e143], defers := [] }, n₀, ⟨e9, e10, e11, e18, e19, e20, e78, e79, e80, e81, e82, e83, e84, e85, e86, e87, e88, e89, e90, e91, e92, e93, e94, e95, e96, e97, e98, e99, e100, e101, e102, e103, e104, e105, e106, e107, e108, e109, e110, e111, e112, e113, e114, e115, e116, e117, e118, e119, e120, e121, e122, e123, e124, e125, e126, e127, h₀, rfl⟩, fun n a w hI => ?_⟩
  obtain ⟨u9, u10, u11, u18, u19, u20, u78, u79, u80, u81, u82, u83, u84, u85, u86, u87, u88, u89, u90, u91, u92, u93, u94, u95, u96, u97, u98, u99, u100, u101, u102, u103, u104, u105, u106, u107, u108, u109, u110, u111, u112, u113, u114, u115, u116, u117, u118, u119, u120, u121, u122, u123, u124, u125, u126, u127, hr, rfl⟩ := hI
  exact round n w u9 u10 u11 u18 u19 u20 u78 u79 u80 u81 u82 u83 u84 u85 u86 u87 u88 u89 u90 u91 u92 u93 u94 u95 u96 u97 u98 u99 u100 u101 u102 u103 u104 u105 u106 u107 u108 u109 u110 u111 u112 u113 u114 u115 u116 u117 u118 u119 u120 u121 u122 u123 u124 u125 u126 u127 hr _ _ (fun _ _ _ h => h) (fun _ _ h => h)
set_option maxHeartbeats 8000000 in
set_option maxRecDepth 100000 in
theorem head_Parse.calls (k : Nat) (A0 : Option Addr) (c0 : Nat) (l0 : List Int) (r1 : ByteArray) (r2 : ByteArray) (r3 : ByteArray) (r4 : ByteArray) (r5 : List (S38)) (r6 : Int) (r7 : Int) (w : World) (hml : ML w) (hr0 : Kd.C (Kd.int .u8) w A0 l0.length l0) (hc0 : l0.length ≤ c0) (h : head_Parse.f k l0 = some (r1, r2, r3, r4, r5, r6, r7)) :
    Calls Tryd.prog 14 #[.slice A0 l0.length c0] w fun e w' => ∃ v4_ : Value, e = .returned (.tuple #[.agg #[.string r1, .string r2, .string r3, .string r4, v4_], .int .i64 r6, .int .i64 r7]) ∧ Kd.R k38 38 w' w.heap.size (fun _ => True) v4_ r5 ∧ Below w.heap.size w w' := by
  have HML := Aside0.mk hml
  clear hml
  have kcb := fun (w_ : World) (C_ : Array Value) (n_ c_ : Nat) => Lib.run_convert_bytes_const (P := Tryd.prog) w_ 22 5 C_ n_ c_ Tryd.underlying22 Tryd.underlying5
  have hu25 := Tryd.underlying25
  have hu38 := Tryd.underlying38
  have HR0 := Aside0.mk hr0
  have HC0 := Aside0.mk hc0
  clear hr0 hc0
  have HB := Aside0.mk (Below.refl w.heap.size w)
  have H : (if 0 ≤ (mn (l0.length : Int) 2048) then (if (mn (l0.length : Int) 2048) ≤ (l0.length : Int) then ((bytes_Index.f (l0.take ((mn (l0.length : Int) 2048) : Int).toNat) (([13, 10, 13, 10] : List Int))).bind fun t218 => (if t218 < 0 then (if (l0.length : Int) < 2048 then (some ((⟨#[]⟩ : ByteArray), (⟨#[]⟩ : ByteArray), (⟨#[]⟩ : ByteArray), (⟨#[]⟩ : ByteArray), ([] : List (S38)), 0, 3)) else (some ((⟨#[]⟩ : ByteArray), (⟨#[]⟩ : ByteArray), (⟨#[]⟩ : ByteArray), (⟨#[]⟩ : ByteArray), ([] : List (S38)), 0, 6))) else (if 0 ≤ t218 then (if t218 ≤ (l0.length : Int) then ((strings_Split.f (strOfNums (l0.take (t218 : Int).toNat)) (⟨#[13, 10]⟩ : ByteArray)).bind fun t220 => (if 0 < (t220.length : Int) then ((strings_Cut.f (rdOf ByteArray.empty t220 0) (⟨#[32]⟩ : ByteArray)).bind fun bt225 => ((strings_Cut.f bt225.2.1 (⟨#[32]⟩ : ByteArray)).bind fun bt228 => ((head_target.f k bt228.1).bind fun bt231 => (if bt231.2.2.2 = true then ((head_token.f k bt225.1).bind fun t235 => (if t235 = true then (head_Parse.j0 k t218 t220 0 1 (⟨#[]⟩ : ByteArray) bt225.1 (bt228.2.1.toList != ([72, 84, 84, 80, 47, 49, 46, 49] : List UInt8)) (⟨#[]⟩ : ByteArray) bt231.1 bt231.2.1 bt231.2.2.1) else (head_Parse.j0 k t218 t220 0 1 (⟨#[]⟩ : ByteArray) bt225.1 true (⟨#[]⟩ : ByteArray) bt231.1 bt231.2.1 bt231.2.2.1))) else (head_Parse.j0 k t218 t220 0 1 (⟨#[]⟩ : ByteArray) bt225.1 true (⟨#[]⟩ : ByteArray) bt231.1 bt231.2.1 bt231.2.2.1))))) else (none))) else (none)) else (none)))) else (none)) else (none)) = some (r1, r2, r3, r4, r5, r6, r7) := h
  clear h
  obtain ⟨ji2, hji2⟩ : ∃ j_ : Int, (mn (l0.length : Int) 2048) = j_ := ⟨_, rfl⟩
  replace H : (if 0 ≤ (ji2) then (if (ji2) ≤ (l0.length : Int) then ((bytes_Index.f (l0.take ((ji2) : Int).toNat) (([13, 10, 13, 10] : List Int))).bind fun t218 => (if t218 < 0 then (if (l0.length : Int) < 2048 then (some ((⟨#[]⟩ : ByteArray), (⟨#[]⟩ : ByteArray), (⟨#[]⟩ : ByteArray), (⟨#[]⟩ : ByteArray), ([] : List (S38)), 0, 3)) else (some ((⟨#[]⟩ : ByteArray), (⟨#[]⟩ : ByteArray), (⟨#[]⟩ : ByteArray), (⟨#[]⟩ : ByteArray), ([] : List (S38)), 0, 6))) else (if 0 ≤ t218 then (if t218 ≤ (l0.length : Int) then ((strings_Split.f (strOfNums (l0.take (t218 : Int).toNat)) (⟨#[13, 10]⟩ : ByteArray)).bind fun t220 => (if 0 < (t220.length : Int) then ((strings_Cut.f (rdOf ByteArray.empty t220 0) (⟨#[32]⟩ : ByteArray)).bind fun bt225 => ((strings_Cut.f bt225.2.1 (⟨#[32]⟩ : ByteArray)).bind fun bt228 => ((head_target.f k bt228.1).bind fun bt231 => (if bt231.2.2.2 = true then ((head_token.f k bt225.1).bind fun t235 => (if t235 = true then (head_Parse.j0 k t218 t220 0 1 (⟨#[]⟩ : ByteArray) bt225.1 (bt228.2.1.toList != ([72, 84, 84, 80, 47, 49, 46, 49] : List UInt8)) (⟨#[]⟩ : ByteArray) bt231.1 bt231.2.1 bt231.2.2.1) else (head_Parse.j0 k t218 t220 0 1 (⟨#[]⟩ : ByteArray) bt225.1 true (⟨#[]⟩ : ByteArray) bt231.1 bt231.2.1 bt231.2.2.1))) else (head_Parse.j0 k t218 t220 0 1 (⟨#[]⟩ : ByteArray) bt225.1 true (⟨#[]⟩ : ByteArray) bt231.1 bt231.2.1 bt231.2.2.1))))) else (none))) else (none)) else (none)))) else (none)) else (none)) = some (r1, r2, r3, r4, r5, r6, r7) := by first | (rw [hji2] at H; exact H) | (simp only [hji2] at H ⊢; exact H)
  (try (have hji2h : ji2 ≤ 2048 := by (rw [← hji2]; unfold mn; (repeat' split) <;> omega)))
  (try (have hji2g : ji2 ≤ 64 := by omega))
  (try (have hji2l : 0 ≤ ji2 := by (rw [← hji2]; unfold mn; (repeat' split) <;> omega)))
  (try (have hji2m : 0 ≤ ji2 := by omega))
  have hji2_ : (if 2048 < (l0.length : Int) then 2048 else (l0.length : Int)) = ji2 := hji2
  by_cases c3 : 0 ≤ (ji2)
  · rw [if_pos c3] at H
    have c3b0 := eq_true c3
    have c3b1 : decide (0 ≤ (ji2)) = true := decide_eq_true c3
    clear c3
    by_cases c4 : (ji2) ≤ (l0.length : Int)
    · rw [if_pos c4] at H
      have c4b0 := eq_true c4
      have c4b1 : decide ((ji2) ≤ (l0.length : Int)) = true := decide_eq_true c4
      clear c4
      obtain ⟨y215, hy215⟩ : ∃ y_ : List Int, y_ = (([13, 10, 13, 10] : List Int)) := ⟨_, rfl⟩
      replace H : ((bytes_Index.f (l0.take ((ji2) : Int).toNat) y215).bind fun t218 => (if t218 < 0 then (if (l0.length : Int) < 2048 then (some ((⟨#[]⟩ : ByteArray), (⟨#[]⟩ : ByteArray), (⟨#[]⟩ : ByteArray), (⟨#[]⟩ : ByteArray), ([] : List (S38)), 0, 3)) else (some ((⟨#[]⟩ : ByteArray), (⟨#[]⟩ : ByteArray), (⟨#[]⟩ : ByteArray), (⟨#[]⟩ : ByteArray), ([] : List (S38)), 0, 6))) else (if 0 ≤ t218 then (if t218 ≤ (l0.length : Int) then ((strings_Split.f (strOfNums (l0.take (t218 : Int).toNat)) (⟨#[13, 10]⟩ : ByteArray)).bind fun t220 => (if 0 < (t220.length : Int) then ((strings_Cut.f (rdOf ByteArray.empty t220 0) (⟨#[32]⟩ : ByteArray)).bind fun bt225 => ((strings_Cut.f bt225.2.1 (⟨#[32]⟩ : ByteArray)).bind fun bt228 => ((head_target.f k bt228.1).bind fun bt231 => (if bt231.2.2.2 = true then ((head_token.f k bt225.1).bind fun t235 => (if t235 = true then (head_Parse.j0 k t218 t220 0 1 (⟨#[]⟩ : ByteArray) bt225.1 (bt228.2.1.toList != ([72, 84, 84, 80, 47, 49, 46, 49] : List UInt8)) (⟨#[]⟩ : ByteArray) bt231.1 bt231.2.1 bt231.2.2.1) else (head_Parse.j0 k t218 t220 0 1 (⟨#[]⟩ : ByteArray) bt225.1 true (⟨#[]⟩ : ByteArray) bt231.1 bt231.2.1 bt231.2.2.1))) else (head_Parse.j0 k t218 t220 0 1 (⟨#[]⟩ : ByteArray) bt225.1 true (⟨#[]⟩ : ByteArray) bt231.1 bt231.2.1 bt231.2.2.1))))) else (none))) else (none)) else (none)))) = some (r1, r2, r3, r4, r5, r6, r7) := by first | (rw [hy215]; with_reducible exact H) | (have H2_ := (Option.bind_some _ _).symm.trans H; rw [hy215]; with_reducible exact H2_) | (have H2_ := (Option.bind_some _ _).symm.trans H; with_reducible exact H2_) | with_reducible exact H | (rw [hy215]; exact H) | exact H
      have Ny215 := Aside0.mk hy215
      clear hy215
      replace H := Option.bind_eq_some_iff.mp H
      obtain ⟨t218, A50, H⟩ := H
      replace H : (if t218 < 0 then (if (l0.length : Int) < 2048 then (some ((⟨#[]⟩ : ByteArray), (⟨#[]⟩ : ByteArray), (⟨#[]⟩ : ByteArray), (⟨#[]⟩ : ByteArray), ([] : List (S38)), 0, 3)) else (some ((⟨#[]⟩ : ByteArray), (⟨#[]⟩ : ByteArray), (⟨#[]⟩ : ByteArray), (⟨#[]⟩ : ByteArray), ([] : List (S38)), 0, 6))) else (if 0 ≤ t218 then (if t218 ≤ (l0.length : Int) then ((strings_Split.f (strOfNums (l0.take (t218 : Int).toNat)) (⟨#[13, 10]⟩ : ByteArray)).bind fun t220 => (if 0 < (t220.length : Int) then ((strings_Cut.f (rdOf ByteArray.empty t220 0) (⟨#[32]⟩ : ByteArray)).bind fun bt225 => ((strings_Cut.f bt225.2.1 (⟨#[32]⟩ : ByteArray)).bind fun bt228 => ((head_target.f k bt228.1).bind fun bt231 => (if bt231.2.2.2 = true then ((head_token.f k bt225.1).bind fun t235 => (if t235 = true then (head_Parse.j0 k t218 t220 0 1 (⟨#[]⟩ : ByteArray) bt225.1 (bt228.2.1.toList != ([72, 84, 84, 80, 47, 49, 46, 49] : List UInt8)) (⟨#[]⟩ : ByteArray) bt231.1 bt231.2.1 bt231.2.2.1) else (head_Parse.j0 k t218 t220 0 1 (⟨#[]⟩ : ByteArray) bt225.1 true (⟨#[]⟩ : ByteArray) bt231.1 bt231.2.1 bt231.2.2.1))) else (head_Parse.j0 k t218 t220 0 1 (⟨#[]⟩ : ByteArray) bt225.1 true (⟨#[]⟩ : ByteArray) bt231.1 bt231.2.1 bt231.2.2.1))))) else (none))) else (none)) else (none))) = some (r1, r2, r3, r4, r5, r6, r7) := H
      have A5 := Aside0.mk A50
      clear A50
      by_cases c6 : t218 < 0
      · rw [if_pos c6] at H
        have c6b0 : decide (t218 < 0) = true := decide_eq_true c6
        clear c6
        by_cases c7 : (l0.length : Int) < 2048
        · rw [if_pos c7] at H
          have c7b0 : decide ((l0.length : Int) < 2048) = true := decide_eq_true c7
          have c7b1 : decide (l0.length < 2048) = true := decide_eq_true (by omega)
          clear c7
          simp only [Option.some.injEq, Prod.mk.injEq] at H
          obtain ⟨rfl, rfl, rfl, rfl, rfl, rfl, rfl⟩ := H
          go_enter Tryd.func14, Tryd.ntmps14
          go_wp2_with (first | ((with_reducible refine gate_dst (N := 2) rfl ?_); refine box_event ?hg (N := 2) ?hd (cs := #[.string (⟨#[]⟩ : ByteArray), .string (⟨#[]⟩ : ByteArray), .string (⟨#[]⟩ : ByteArray), .string (⟨#[]⟩ : ByteArray), .slice none 0 0]) (t := 25) ?hr ?_; (case hd => rfl); (case hg => rfl); (case hr => first | (go_simp; done) | (go_simp; rfl)); intro gb213 hg w8 hbox hb; have n0_ := Aside0.mk (below_step (by repeat (first | (with_reducible first | exact HB.out | apply below_alloc | apply pw_below_drewN | apply below_drew1) | exact HB.out)) hb); have n1_ := Aside0.mk (hbox); have n2_ := Aside0.mk ((by rw [hg]; exact (below_size (by repeat (first | (with_reducible first | exact HB.out | apply below_alloc | apply pw_below_drewN | apply below_drew1) | exact HB.out))) : w.heap.size ≤ gb213)); have n3_ := Aside0.mk ((by rw [hg]; exact (below_size (by repeat (first | (with_reducible first | exact HB.out | apply below_alloc | apply pw_below_drewN | apply below_drew1) | exact HB.out))) : w.heap.size ≤ gb213)); clear HB; have HB := n0_; have BK213 := n1_; have GW213 := n2_; have GE213 := n3_; clear n0_ n1_ n2_ n3_; clear hb hbox hg; obtain ⟨i09, hi09, _, hsz9, _⟩ := info_parts info5; obtain ⟨hcut9, hA9, hC9⟩ := print_take_of (P := Tryd.prog) (Value.int .u8) 0 22 5 .i64 Tryd.underlying22 hi09 hsz9 A0 c0 l0 (ji2) (of_decide_eq_true (by first | (with_reducible assumption) | assumption)) (of_decide_eq_true (by first | (with_reducible assumption) | assumption)) HC0.out; have HR214 := Aside0.mk (Kd.C_of_reads (h1 := fun _ => rfl) (hA9 _ (Kd.reads_of_C HR0.out))); have HC214 := Aside0.mk hC9; clear hA9 hC9 hi09 hsz9) | ((with_reducible refine gate_dst (N := 27) rfl ?_); refine Kd.V_lit (Kd.int .u8) _ 5 ?hg (N := 27) ?hd (xs := ([13, 10, 13, 10] : List Int)) (inner := [.int .u8 13, .int .u8 10, .int .u8 13, .int .u8 10]) (ok := fun k_ => w8.heap.size ≤ k_) (okp := fun _ => False) ?hr ?hp (fun _ hk => hk.elim) (Nat.le_refl _) (Below.refl _ _) (Nat.le_refl _) (by simp) ?_; (case hd => rfl); (case hg => rfl); (case hr => first | (go_simp; done) | (go_simp; rfl)); (case hp => exact (Reps.one (show Kd.M (Kd.int .u8) _ _ _ 13 [.int .u8 13] from rfl) (Reps.one (show Kd.M (Kd.int .u8) _ _ _ 10 [.int .u8 10] from rfl) (Reps.one (show Kd.M (Kd.int .u8) _ _ _ 13 [.int .u8 13] from rfl) (Reps.one (show Kd.M (Kd.int .u8) _ _ _ 10 [.int .u8 10] from rfl) (Reps.none _ _)))))); intro v216 w10 ho11 hb hg_ hnew_; clear hg_ hnew_; (first | rw [← Ny215.out] at ho11 | (simp only [Int.reduceToNat] at ho11; rw [← Ny215.out] at ho11)); have n0_ := Aside0.mk (Kd.V_lower (Kd.V_mono (ok' := fun k_ => k_ ≠ gb213) ho11 (fun k_ hk_ => (Kd.freshB (g := gb213) (o := .cells #[.string (⟨#[]⟩ : ByteArray), .string (⟨#[]⟩ : ByteArray), .string (⟨#[]⟩ : ByteArray), .string (⟨#[]⟩ : ByteArray), .slice none 0 0] 25 (0, 0)) (by (with_reducible repeat (first | refine blk_drewN ?_ _ | refine blk_drew ?_ | refine blk_alloc ?_ _)); exact BK213.out) k_ hk_))) (below_size (by repeat (first | (with_reducible first | exact HB.out | apply below_alloc | apply pw_below_drewN | apply below_drew1 | refine below_set ?_ GE213.out) | exact HB.out)))); have n1_ := Aside0.mk (blk_below (g := gb213) (o := .cells #[.string (⟨#[]⟩ : ByteArray), .string (⟨#[]⟩ : ByteArray), .string (⟨#[]⟩ : ByteArray), .string (⟨#[]⟩ : ByteArray), .slice none 0 0] 25 (0, 0)) (by (with_reducible repeat (first | refine blk_drewN ?_ _ | refine blk_drew ?_ | refine blk_alloc ?_ _)); exact BK213.out) hb); have n2_ := Aside0.mk (below_step (by repeat (first | (with_reducible first | exact HB.out | apply below_alloc | apply pw_below_drewN | apply below_drew1 | refine below_set ?_ GE213.out) | exact HB.out)) hb); clear BK213; clear HB; have HO217 := n0_; have BK213 := n1_; have HB := n2_; clear n0_ n1_ n2_; clear hb ho11; obtain ⟨Ao12, co12, eo12⟩ := Kd.V_slice HO217.out; subst eo12) | ((with_reducible refine gate_callee (f := 34) rfl ?_); refine goesL_ (some 28) rfl rfl Tryd.func34 (by kernel_rfl) rfl #[.slice A0 (l0.take ((ji2) : Int).toNat).length c0, .slice Ao12 y215.length co12] rfl (by (try simp only [List.map_toArray, List.map_cons, List.map_nil]); first | done | (rw [show (l0.take ((ji2) : Int).toNat).length = (ji2).toNat from (by rw [List.length_take]; have h_ : ((ji2) : Int) ≤ (l0.length : Int) := of_decide_eq_true (by first | (with_reducible assumption) | assumption); omega)] <;> rfl) | (simp only [hji2]; rfl) | rfl | (simp only [List.length_drop, List.length_take]; rfl)) ?_; (with_reducible refine (bytes_Index.calls _ _ (l0.take ((ji2) : Int).toNat) _ _ y215 t218 _ ?side1 ?side2 ?side3 ?side4 ?side5 A5.out).mono ?_); (case side1 => exact ML.keep HML.out (by repeat (first | (with_reducible first | exact HB.out | apply below_alloc | apply pw_below_drewN | apply below_drew1 | refine below_set ?_ GE213.out) | exact HB.out))); (case side2 => repeat (first | exact (Kd.C_below HR214.out HB.out) | (with_reducible refine Kd.C_alloc ?_ _) | (with_reducible refine Kd.C_drewN ?_ _) | (with_reducible refine Kd.C_drew ?_))); (case side3 => exact HC214.out); (case side4 => repeat (first | exact (Kd.V_reads' HO217.out).2.2 | (with_reducible refine Kd.C_alloc ?_ _) | (with_reducible refine Kd.C_drewN ?_ _) | (with_reducible refine Kd.C_drew ?_))); (case side5 => exact (Kd.V_reads' HO217.out).2.1); rintro e w' ⟨rfl, ⟨nd, rfl⟩⟩; refine ⟨_, rfl, ?_⟩; (try (rw [drewN_self w10]; generalize hq_ : World.drewN w10 _ = w10; have n0_ : Aside0 (Kd.V (Kd.int .u8) 5 w10 w.heap.size (fun k_ => k_ ≠ gb213) (.slice Ao12 y215.length co12) y215) := ⟨by rw [← hq_]; exact (by (with_reducible repeat (first | apply Kd.V_alloc | apply Kd.V_drewN | apply Kd.V_drew)); exact HO217.out)⟩; have n1_ : Aside0 (w10.heap[gb213]? = some (.cells #[.string (⟨#[]⟩ : ByteArray), .string (⟨#[]⟩ : ByteArray), .string (⟨#[]⟩ : ByteArray), .string (⟨#[]⟩ : ByteArray), .slice none 0 0] 25 (0, 0))) := ⟨by rw [← hq_]; exact (by (with_reducible repeat (first | refine blk_drewN ?_ _ | refine blk_drew ?_ | refine blk_alloc ?_ _)); exact BK213.out)⟩; have n2_ : Aside0 (Below w.heap.size w w10) := ⟨by rw [← hq_]; exact (by repeat (first | (with_reducible first | exact HB.out | apply below_alloc | apply pw_below_drewN | apply below_drew1 | refine below_set ?_ GE213.out) | exact HB.out))⟩; clear HO217 BK213 HB hq_; have HO217 := n0_; have BK213 := n1_; have HB := n2_; clear n0_ n1_ n2_)); have hcz13_0 : w10.cell? ⟨gb213, 0, none⟩ = some (.string (⟨#[]⟩ : ByteArray)) := (blk_cell BK213.out 0).trans rfl; have hcz13_1 : w10.cell? ⟨gb213, 1, none⟩ = some (.string (⟨#[]⟩ : ByteArray)) := (blk_cell BK213.out 1).trans rfl; have hcz13_2 : w10.cell? ⟨gb213, 2, none⟩ = some (.string (⟨#[]⟩ : ByteArray)) := (blk_cell BK213.out 2).trans rfl; have hcz13_3 : w10.cell? ⟨gb213, 3, none⟩ = some (.string (⟨#[]⟩ : ByteArray)) := (blk_cell BK213.out 3).trans rfl; have hcz13_4 : w10.cell? ⟨gb213, 4, none⟩ = some (.slice none 0 0) := (blk_cell BK213.out 4).trans rfl; have hfz13_0 := blk_frozen BK213.out 0; have hfz13_1 := blk_frozen BK213.out 1; have hfz13_2 := blk_frozen BK213.out 2; have hfz13_3 := blk_frozen BK213.out 3; have hfz13_4 := blk_frozen BK213.out 4))
          refine Scope.wp_scope_two (by rfl) (by rfl) (fun K0 hK0_ K1 hK1_ => ?_)
          have hK0 := Aside0.mk hK0_
          have hK1 := Aside0.mk hK1_
          clear hK0_ hK1_
          go_wp2_with (first | ((with_reducible refine gate_dst (N := 2) rfl ?_); refine box_event ?hg (N := 2) ?hd (cs := #[.string (⟨#[]⟩ : ByteArray), .string (⟨#[]⟩ : ByteArray), .string (⟨#[]⟩ : ByteArray), .string (⟨#[]⟩ : ByteArray), .slice none 0 0]) (t := 25) ?hr ?_; (case hd => rfl); (case hg => rfl); (case hr => first | (go_simp; done) | (go_simp; rfl)); intro gb213 hg w8 hbox hb; have n0_ := Aside0.mk (below_step (by repeat (first | (with_reducible first | exact HB.out | apply below_alloc | apply pw_below_drewN | apply below_drew1) | exact HB.out)) hb); have n1_ := Aside0.mk (hbox); have n2_ := Aside0.mk ((by rw [hg]; exact (below_size (by repeat (first | (with_reducible first | exact HB.out | apply below_alloc | apply pw_below_drewN | apply below_drew1) | exact HB.out))) : w.heap.size ≤ gb213)); have n3_ := Aside0.mk ((by rw [hg]; exact (below_size (by repeat (first | (with_reducible first | exact HB.out | apply below_alloc | apply pw_below_drewN | apply below_drew1) | exact HB.out))) : w.heap.size ≤ gb213)); clear HB; have HB := n0_; have BK213 := n1_; have GW213 := n2_; have GE213 := n3_; clear n0_ n1_ n2_ n3_; clear hb hbox hg; obtain ⟨i09, hi09, _, hsz9, _⟩ := info_parts info5; obtain ⟨hcut9, hA9, hC9⟩ := print_take_of (P := Tryd.prog) (Value.int .u8) 0 22 5 .i64 Tryd.underlying22 hi09 hsz9 A0 c0 l0 (ji2) (of_decide_eq_true (by first | (with_reducible assumption) | assumption)) (of_decide_eq_true (by first | (with_reducible assumption) | assumption)) HC0.out; have HR214 := Aside0.mk (Kd.C_of_reads (h1 := fun _ => rfl) (hA9 _ (Kd.reads_of_C HR0.out))); have HC214 := Aside0.mk hC9; clear hA9 hC9 hi09 hsz9) | ((with_reducible refine gate_dst (N := 27) rfl ?_); refine Kd.V_lit (Kd.int .u8) _ 5 ?hg (N := 27) ?hd (xs := ([13, 10, 13, 10] : List Int)) (inner := [.int .u8 13, .int .u8 10, .int .u8 13, .int .u8 10]) (ok := fun k_ => w8.heap.size ≤ k_) (okp := fun _ => False) ?hr ?hp (fun _ hk => hk.elim) (Nat.le_refl _) (Below.refl _ _) (Nat.le_refl _) (by simp) ?_; (case hd => rfl); (case hg => rfl); (case hr => first | (go_simp; done) | (go_simp; rfl)); (case hp => exact (Reps.one (show Kd.M (Kd.int .u8) _ _ _ 13 [.int .u8 13] from rfl) (Reps.one (show Kd.M (Kd.int .u8) _ _ _ 10 [.int .u8 10] from rfl) (Reps.one (show Kd.M (Kd.int .u8) _ _ _ 13 [.int .u8 13] from rfl) (Reps.one (show Kd.M (Kd.int .u8) _ _ _ 10 [.int .u8 10] from rfl) (Reps.none _ _)))))); intro v216 w10 ho11 hb hg_ hnew_; clear hg_ hnew_; (first | rw [← Ny215.out] at ho11 | (simp only [Int.reduceToNat] at ho11; rw [← Ny215.out] at ho11)); have n0_ := Aside0.mk (Kd.V_lower (Kd.V_mono (ok' := fun k_ => k_ ≠ gb213) ho11 (fun k_ hk_ => (Kd.freshB (g := gb213) (o := .cells #[.string (⟨#[]⟩ : ByteArray), .string (⟨#[]⟩ : ByteArray), .string (⟨#[]⟩ : ByteArray), .string (⟨#[]⟩ : ByteArray), .slice none 0 0] 25 (0, 0)) (by (with_reducible repeat (first | refine blk_drewN ?_ _ | refine blk_drew ?_ | refine blk_alloc ?_ _)); exact BK213.out) k_ hk_))) (below_size (by repeat (first | (with_reducible first | exact HB.out | apply below_alloc | apply pw_below_drewN | apply below_drew1 | refine below_set ?_ GE213.out) | exact HB.out)))); have n1_ := Aside0.mk (blk_below (g := gb213) (o := .cells #[.string (⟨#[]⟩ : ByteArray), .string (⟨#[]⟩ : ByteArray), .string (⟨#[]⟩ : ByteArray), .string (⟨#[]⟩ : ByteArray), .slice none 0 0] 25 (0, 0)) (by (with_reducible repeat (first | refine blk_drewN ?_ _ | refine blk_drew ?_ | refine blk_alloc ?_ _)); exact BK213.out) hb); have n2_ := Aside0.mk (below_step (by repeat (first | (with_reducible first | exact HB.out | apply below_alloc | apply pw_below_drewN | apply below_drew1 | refine below_set ?_ GE213.out) | exact HB.out)) hb); clear BK213; clear HB; have HO217 := n0_; have BK213 := n1_; have HB := n2_; clear n0_ n1_ n2_; clear hb ho11; obtain ⟨Ao12, co12, eo12⟩ := Kd.V_slice HO217.out; subst eo12) | ((with_reducible refine gate_callee (f := 34) rfl ?_); refine goesL_ (some 28) rfl rfl Tryd.func34 (by kernel_rfl) rfl #[.slice A0 (l0.take ((ji2) : Int).toNat).length c0, .slice Ao12 y215.length co12] rfl (by (try simp only [List.map_toArray, List.map_cons, List.map_nil]); first | done | (rw [show (l0.take ((ji2) : Int).toNat).length = (ji2).toNat from (by rw [List.length_take]; have h_ : ((ji2) : Int) ≤ (l0.length : Int) := of_decide_eq_true (by first | (with_reducible assumption) | assumption); omega)] <;> rfl) | (simp only [hji2]; rfl) | rfl | (simp only [List.length_drop, List.length_take]; rfl)) ?_; (with_reducible refine (bytes_Index.calls _ _ (l0.take ((ji2) : Int).toNat) _ _ y215 t218 _ ?side1 ?side2 ?side3 ?side4 ?side5 A5.out).mono ?_); (case side1 => exact ML.keep HML.out (by repeat (first | (with_reducible first | exact HB.out | apply below_alloc | apply pw_below_drewN | apply below_drew1 | refine below_set ?_ GE213.out) | exact HB.out))); (case side2 => repeat (first | exact (Kd.C_below HR214.out HB.out) | (with_reducible refine Kd.C_alloc ?_ _) | (with_reducible refine Kd.C_drewN ?_ _) | (with_reducible refine Kd.C_drew ?_))); (case side3 => exact HC214.out); (case side4 => repeat (first | exact (Kd.V_reads' HO217.out).2.2 | (with_reducible refine Kd.C_alloc ?_ _) | (with_reducible refine Kd.C_drewN ?_ _) | (with_reducible refine Kd.C_drew ?_))); (case side5 => exact (Kd.V_reads' HO217.out).2.1); rintro e w' ⟨rfl, ⟨nd, rfl⟩⟩; refine ⟨_, rfl, ?_⟩; (try (rw [drewN_self w10]; generalize hq_ : World.drewN w10 _ = w10; have n0_ : Aside0 (Kd.V (Kd.int .u8) 5 w10 w.heap.size (fun k_ => k_ ≠ gb213) (.slice Ao12 y215.length co12) y215) := ⟨by rw [← hq_]; exact (by (with_reducible repeat (first | apply Kd.V_alloc | apply Kd.V_drewN | apply Kd.V_drew)); exact HO217.out)⟩; have n1_ : Aside0 (w10.heap[gb213]? = some (.cells #[.string (⟨#[]⟩ : ByteArray), .string (⟨#[]⟩ : ByteArray), .string (⟨#[]⟩ : ByteArray), .string (⟨#[]⟩ : ByteArray), .slice none 0 0] 25 (0, 0))) := ⟨by rw [← hq_]; exact (by (with_reducible repeat (first | refine blk_drewN ?_ _ | refine blk_drew ?_ | refine blk_alloc ?_ _)); exact BK213.out)⟩; have n2_ : Aside0 (Below w.heap.size w w10) := ⟨by rw [← hq_]; exact (by repeat (first | (with_reducible first | exact HB.out | apply below_alloc | apply pw_below_drewN | apply below_drew1 | refine below_set ?_ GE213.out) | exact HB.out))⟩; clear HO217 BK213 HB hq_; have HO217 := n0_; have BK213 := n1_; have HB := n2_; clear n0_ n1_ n2_)); have hcz13_0 : w10.cell? ⟨gb213, 0, none⟩ = some (.string (⟨#[]⟩ : ByteArray)) := (blk_cell BK213.out 0).trans rfl; have hcz13_1 : w10.cell? ⟨gb213, 1, none⟩ = some (.string (⟨#[]⟩ : ByteArray)) := (blk_cell BK213.out 1).trans rfl; have hcz13_2 : w10.cell? ⟨gb213, 2, none⟩ = some (.string (⟨#[]⟩ : ByteArray)) := (blk_cell BK213.out 2).trans rfl; have hcz13_3 : w10.cell? ⟨gb213, 3, none⟩ = some (.string (⟨#[]⟩ : ByteArray)) := (blk_cell BK213.out 3).trans rfl; have hcz13_4 : w10.cell? ⟨gb213, 4, none⟩ = some (.slice none 0 0) := (blk_cell BK213.out 4).trans rfl; have hfz13_0 := blk_frozen BK213.out 0; have hfz13_1 := blk_frozen BK213.out 1; have hfz13_2 := blk_frozen BK213.out 2; have hfz13_3 := blk_frozen BK213.out 3; have hfz13_4 := blk_frozen BK213.out 4))
          (try ((with_reducible refine wp_goto ?_); refine Or.inl ⟨rfl, ?_⟩; refine hK0.out _ _ ?_; go_wp2))
          (try simp only [Exit.two_ret, Exit.noGoto_ret])
          refine bodyPost_ret (results_ctt rfl _ _ gb213 25 #[.string (⟨#[]⟩ : ByteArray), .string (⟨#[]⟩ : ByteArray), .string (⟨#[]⟩ : ByteArray), .string (⟨#[]⟩ : ByteArray), .slice none 0 0] (0, 0) _ rfl (by (with_reducible repeat (first | refine blk_drewN ?_ _ | refine blk_drew ?_ | refine blk_alloc ?_ _)); refine blk_put (cs := #[.string (⟨#[]⟩ : ByteArray), .string (⟨#[]⟩ : ByteArray), .string (⟨#[]⟩ : ByteArray), .string (⟨#[]⟩ : ByteArray), .slice none 0 0]) ?_ 4 _ rfl; (with_reducible repeat (first | refine blk_drewN ?_ _ | refine blk_drew ?_ | refine blk_alloc ?_ _)); refine blk_put (cs := #[.string (⟨#[]⟩ : ByteArray), .string (⟨#[]⟩ : ByteArray), .string (⟨#[]⟩ : ByteArray), .string (⟨#[]⟩ : ByteArray), .slice none 0 0]) ?_ 3 _ rfl; (with_reducible repeat (first | refine blk_drewN ?_ _ | refine blk_drew ?_ | refine blk_alloc ?_ _)); refine blk_put (cs := #[.string (⟨#[]⟩ : ByteArray), .string (⟨#[]⟩ : ByteArray), .string (⟨#[]⟩ : ByteArray), .string (⟨#[]⟩ : ByteArray), .slice none 0 0]) ?_ 2 _ rfl; (with_reducible repeat (first | refine blk_drewN ?_ _ | refine blk_drew ?_ | refine blk_alloc ?_ _)); refine blk_put (cs := #[.string (⟨#[]⟩ : ByteArray), .string (⟨#[]⟩ : ByteArray), .string (⟨#[]⟩ : ByteArray), .string (⟨#[]⟩ : ByteArray), .slice none 0 0]) ?_ 1 _ rfl; (with_reducible repeat (first | refine blk_drewN ?_ _ | refine blk_drew ?_ | refine blk_alloc ?_ _)); refine blk_put (cs := #[.string (⟨#[]⟩ : ByteArray), .string (⟨#[]⟩ : ByteArray), .string (⟨#[]⟩ : ByteArray), .string (⟨#[]⟩ : ByteArray), .slice none 0 0]) ?_ 0 _ rfl; (with_reducible repeat (first | refine blk_drewN ?_ _ | refine blk_drew ?_ | refine blk_alloc ?_ _)); exact BK213.out) Tryd.underlying25 rfl (by kernel_rfl)) rfl ?_
          exact ⟨_, by first | rfl | (simp [errW_none, errW_some] <;> rfl) | (simp only [← hji2]; first | rfl | (simp [errW_none, errW_some] <;> rfl)) | (simp [*, errW_none, errW_some] <;> rfl), by first | exact Kd.R_nil _ _ _ _ _ | exact Kd.N_nil _ _ _ _ _ | exact Kd.V_nil _ _ _ _ _ | exact Kd.Q_nil _ _ _ _ _ | exact Kd.S_nil _ _ _ _ _, by repeat (first | (with_reducible first | exact HB.out | apply below_alloc | apply pw_below_drewN | apply below_drew1 | refine below_set ?_ GE213.out) | exact HB.out)⟩
        · rw [if_neg c7] at H
          have c7b0 : decide ((l0.length : Int) < 2048) = false := decide_eq_false c7
          have c7b1 : decide (l0.length < 2048) = false := decide_eq_false (by omega)
          clear c7
          simp only [Option.some.injEq, Prod.mk.injEq] at H
          obtain ⟨rfl, rfl, rfl, rfl, rfl, rfl, rfl⟩ := H
          go_enter Tryd.func14, Tryd.ntmps14
          go_wp2_with (first | ((with_reducible refine gate_dst (N := 2) rfl ?_); refine box_event ?hg (N := 2) ?hd (cs := #[.string (⟨#[]⟩ : ByteArray), .string (⟨#[]⟩ : ByteArray), .string (⟨#[]⟩ : ByteArray), .string (⟨#[]⟩ : ByteArray), .slice none 0 0]) (t := 25) ?hr ?_; (case hd => rfl); (case hg => rfl); (case hr => first | (go_simp; done) | (go_simp; rfl)); intro gb213 hg w14 hbox hb; have n0_ := Aside0.mk (below_step (by repeat (first | (with_reducible first | exact HB.out | apply below_alloc | apply pw_below_drewN | apply below_drew1) | exact HB.out)) hb); have n1_ := Aside0.mk (hbox); have n2_ := Aside0.mk ((by rw [hg]; exact (below_size (by repeat (first | (with_reducible first | exact HB.out | apply below_alloc | apply pw_below_drewN | apply below_drew1) | exact HB.out))) : w.heap.size ≤ gb213)); have n3_ := Aside0.mk ((by rw [hg]; exact (below_size (by repeat (first | (with_reducible first | exact HB.out | apply below_alloc | apply pw_below_drewN | apply below_drew1) | exact HB.out))) : w.heap.size ≤ gb213)); clear HB; have HB := n0_; have BK213 := n1_; have GW213 := n2_; have GE213 := n3_; clear n0_ n1_ n2_ n3_; clear hb hbox hg; obtain ⟨i015, hi015, _, hsz15, _⟩ := info_parts info5; obtain ⟨hcut15, hA15, hC15⟩ := print_take_of (P := Tryd.prog) (Value.int .u8) 0 22 5 .i64 Tryd.underlying22 hi015 hsz15 A0 c0 l0 (ji2) (of_decide_eq_true (by first | (with_reducible assumption) | assumption)) (of_decide_eq_true (by first | (with_reducible assumption) | assumption)) HC0.out; have HR214 := Aside0.mk (Kd.C_of_reads (h1 := fun _ => rfl) (hA15 _ (Kd.reads_of_C HR0.out))); have HC214 := Aside0.mk hC15; clear hA15 hC15 hi015 hsz15) | ((with_reducible refine gate_dst (N := 27) rfl ?_); refine Kd.V_lit (Kd.int .u8) _ 5 ?hg (N := 27) ?hd (xs := ([13, 10, 13, 10] : List Int)) (inner := [.int .u8 13, .int .u8 10, .int .u8 13, .int .u8 10]) (ok := fun k_ => w14.heap.size ≤ k_) (okp := fun _ => False) ?hr ?hp (fun _ hk => hk.elim) (Nat.le_refl _) (Below.refl _ _) (Nat.le_refl _) (by simp) ?_; (case hd => rfl); (case hg => rfl); (case hr => first | (go_simp; done) | (go_simp; rfl)); (case hp => exact (Reps.one (show Kd.M (Kd.int .u8) _ _ _ 13 [.int .u8 13] from rfl) (Reps.one (show Kd.M (Kd.int .u8) _ _ _ 10 [.int .u8 10] from rfl) (Reps.one (show Kd.M (Kd.int .u8) _ _ _ 13 [.int .u8 13] from rfl) (Reps.one (show Kd.M (Kd.int .u8) _ _ _ 10 [.int .u8 10] from rfl) (Reps.none _ _)))))); intro v216 w16 ho17 hb hg_ hnew_; clear hg_ hnew_; (first | rw [← Ny215.out] at ho17 | (simp only [Int.reduceToNat] at ho17; rw [← Ny215.out] at ho17)); have n0_ := Aside0.mk (Kd.V_lower (Kd.V_mono (ok' := fun k_ => k_ ≠ gb213) ho17 (fun k_ hk_ => (Kd.freshB (g := gb213) (o := .cells #[.string (⟨#[]⟩ : ByteArray), .string (⟨#[]⟩ : ByteArray), .string (⟨#[]⟩ : ByteArray), .string (⟨#[]⟩ : ByteArray), .slice none 0 0] 25 (0, 0)) (by (with_reducible repeat (first | refine blk_drewN ?_ _ | refine blk_drew ?_ | refine blk_alloc ?_ _)); exact BK213.out) k_ hk_))) (below_size (by repeat (first | (with_reducible first | exact HB.out | apply below_alloc | apply pw_below_drewN | apply below_drew1 | refine below_set ?_ GE213.out) | exact HB.out)))); have n1_ := Aside0.mk (blk_below (g := gb213) (o := .cells #[.string (⟨#[]⟩ : ByteArray), .string (⟨#[]⟩ : ByteArray), .string (⟨#[]⟩ : ByteArray), .string (⟨#[]⟩ : ByteArray), .slice none 0 0] 25 (0, 0)) (by (with_reducible repeat (first | refine blk_drewN ?_ _ | refine blk_drew ?_ | refine blk_alloc ?_ _)); exact BK213.out) hb); have n2_ := Aside0.mk (below_step (by repeat (first | (with_reducible first | exact HB.out | apply below_alloc | apply pw_below_drewN | apply below_drew1 | refine below_set ?_ GE213.out) | exact HB.out)) hb); clear BK213; clear HB; have HO217 := n0_; have BK213 := n1_; have HB := n2_; clear n0_ n1_ n2_; clear hb ho17; obtain ⟨Ao18, co18, eo18⟩ := Kd.V_slice HO217.out; subst eo18) | ((with_reducible refine gate_callee (f := 34) rfl ?_); refine goesL_ (some 28) rfl rfl Tryd.func34 (by kernel_rfl) rfl #[.slice A0 (l0.take ((ji2) : Int).toNat).length c0, .slice Ao18 y215.length co18] rfl (by (try simp only [List.map_toArray, List.map_cons, List.map_nil]); first | done | (rw [show (l0.take ((ji2) : Int).toNat).length = (ji2).toNat from (by rw [List.length_take]; have h_ : ((ji2) : Int) ≤ (l0.length : Int) := of_decide_eq_true (by first | (with_reducible assumption) | assumption); omega)] <;> rfl) | (simp only [hji2]; rfl) | rfl | (simp only [List.length_drop, List.length_take]; rfl)) ?_; (with_reducible refine (bytes_Index.calls _ _ (l0.take ((ji2) : Int).toNat) _ _ y215 t218 _ ?side1 ?side2 ?side3 ?side4 ?side5 A5.out).mono ?_); (case side1 => exact ML.keep HML.out (by repeat (first | (with_reducible first | exact HB.out | apply below_alloc | apply pw_below_drewN | apply below_drew1 | refine below_set ?_ GE213.out) | exact HB.out))); (case side2 => repeat (first | exact (Kd.C_below HR214.out HB.out) | (with_reducible refine Kd.C_alloc ?_ _) | (with_reducible refine Kd.C_drewN ?_ _) | (with_reducible refine Kd.C_drew ?_))); (case side3 => exact HC214.out); (case side4 => repeat (first | exact (Kd.V_reads' HO217.out).2.2 | (with_reducible refine Kd.C_alloc ?_ _) | (with_reducible refine Kd.C_drewN ?_ _) | (with_reducible refine Kd.C_drew ?_))); (case side5 => exact (Kd.V_reads' HO217.out).2.1); rintro e w' ⟨rfl, ⟨nd, rfl⟩⟩; refine ⟨_, rfl, ?_⟩; (try (rw [drewN_self w16]; generalize hq_ : World.drewN w16 _ = w16; have n0_ : Aside0 (Kd.V (Kd.int .u8) 5 w16 w.heap.size (fun k_ => k_ ≠ gb213) (.slice Ao18 y215.length co18) y215) := ⟨by rw [← hq_]; exact (by (with_reducible repeat (first | apply Kd.V_alloc | apply Kd.V_drewN | apply Kd.V_drew)); exact HO217.out)⟩; have n1_ : Aside0 (w16.heap[gb213]? = some (.cells #[.string (⟨#[]⟩ : ByteArray), .string (⟨#[]⟩ : ByteArray), .string (⟨#[]⟩ : ByteArray), .string (⟨#[]⟩ : ByteArray), .slice none 0 0] 25 (0, 0))) := ⟨by rw [← hq_]; exact (by (with_reducible repeat (first | refine blk_drewN ?_ _ | refine blk_drew ?_ | refine blk_alloc ?_ _)); exact BK213.out)⟩; have n2_ : Aside0 (Below w.heap.size w w16) := ⟨by rw [← hq_]; exact (by repeat (first | (with_reducible first | exact HB.out | apply below_alloc | apply pw_below_drewN | apply below_drew1 | refine below_set ?_ GE213.out) | exact HB.out))⟩; clear HO217 BK213 HB hq_; have HO217 := n0_; have BK213 := n1_; have HB := n2_; clear n0_ n1_ n2_)); have hcz19_0 : w16.cell? ⟨gb213, 0, none⟩ = some (.string (⟨#[]⟩ : ByteArray)) := (blk_cell BK213.out 0).trans rfl; have hcz19_1 : w16.cell? ⟨gb213, 1, none⟩ = some (.string (⟨#[]⟩ : ByteArray)) := (blk_cell BK213.out 1).trans rfl; have hcz19_2 : w16.cell? ⟨gb213, 2, none⟩ = some (.string (⟨#[]⟩ : ByteArray)) := (blk_cell BK213.out 2).trans rfl; have hcz19_3 : w16.cell? ⟨gb213, 3, none⟩ = some (.string (⟨#[]⟩ : ByteArray)) := (blk_cell BK213.out 3).trans rfl; have hcz19_4 : w16.cell? ⟨gb213, 4, none⟩ = some (.slice none 0 0) := (blk_cell BK213.out 4).trans rfl; have hfz19_0 := blk_frozen BK213.out 0; have hfz19_1 := blk_frozen BK213.out 1; have hfz19_2 := blk_frozen BK213.out 2; have hfz19_3 := blk_frozen BK213.out 3; have hfz19_4 := blk_frozen BK213.out 4))
          refine Scope.wp_scope_two (by rfl) (by rfl) (fun K0 hK0_ K1 hK1_ => ?_)
          have hK0 := Aside0.mk hK0_
          have hK1 := Aside0.mk hK1_
          clear hK0_ hK1_
          go_wp2_with (first | ((with_reducible refine gate_dst (N := 2) rfl ?_); refine box_event ?hg (N := 2) ?hd (cs := #[.string (⟨#[]⟩ : ByteArray), .string (⟨#[]⟩ : ByteArray), .string (⟨#[]⟩ : ByteArray), .string (⟨#[]⟩ : ByteArray), .slice none 0 0]) (t := 25) ?hr ?_; (case hd => rfl); (case hg => rfl); (case hr => first | (go_simp; done) | (go_simp; rfl)); intro gb213 hg w14 hbox hb; have n0_ := Aside0.mk (below_step (by repeat (first | (with_reducible first | exact HB.out | apply below_alloc | apply pw_below_drewN | apply below_drew1) | exact HB.out)) hb); have n1_ := Aside0.mk (hbox); have n2_ := Aside0.mk ((by rw [hg]; exact (below_size (by repeat (first | (with_reducible first | exact HB.out | apply below_alloc | apply pw_below_drewN | apply below_drew1) | exact HB.out))) : w.heap.size ≤ gb213)); have n3_ := Aside0.mk ((by rw [hg]; exact (below_size (by repeat (first | (with_reducible first | exact HB.out | apply below_alloc | apply pw_below_drewN | apply below_drew1) | exact HB.out))) : w.heap.size ≤ gb213)); clear HB; have HB := n0_; have BK213 := n1_; have GW213 := n2_; have GE213 := n3_; clear n0_ n1_ n2_ n3_; clear hb hbox hg; obtain ⟨i015, hi015, _, hsz15, _⟩ := info_parts info5; obtain ⟨hcut15, hA15, hC15⟩ := print_take_of (P := Tryd.prog) (Value.int .u8) 0 22 5 .i64 Tryd.underlying22 hi015 hsz15 A0 c0 l0 (ji2) (of_decide_eq_true (by first | (with_reducible assumption) | assumption)) (of_decide_eq_true (by first | (with_reducible assumption) | assumption)) HC0.out; have HR214 := Aside0.mk (Kd.C_of_reads (h1 := fun _ => rfl) (hA15 _ (Kd.reads_of_C HR0.out))); have HC214 := Aside0.mk hC15; clear hA15 hC15 hi015 hsz15) | ((with_reducible refine gate_dst (N := 27) rfl ?_); refine Kd.V_lit (Kd.int .u8) _ 5 ?hg (N := 27) ?hd (xs := ([13, 10, 13, 10] : List Int)) (inner := [.int .u8 13, .int .u8 10, .int .u8 13, .int .u8 10]) (ok := fun k_ => w14.heap.size ≤ k_) (okp := fun _ => False) ?hr ?hp (fun _ hk => hk.elim) (Nat.le_refl _) (Below.refl _ _) (Nat.le_refl _) (by simp) ?_; (case hd => rfl); (case hg => rfl); (case hr => first | (go_simp; done) | (go_simp; rfl)); (case hp => exact (Reps.one (show Kd.M (Kd.int .u8) _ _ _ 13 [.int .u8 13] from rfl) (Reps.one (show Kd.M (Kd.int .u8) _ _ _ 10 [.int .u8 10] from rfl) (Reps.one (show Kd.M (Kd.int .u8) _ _ _ 13 [.int .u8 13] from rfl) (Reps.one (show Kd.M (Kd.int .u8) _ _ _ 10 [.int .u8 10] from rfl) (Reps.none _ _)))))); intro v216 w16 ho17 hb hg_ hnew_; clear hg_ hnew_; (first | rw [← Ny215.out] at ho17 | (simp only [Int.reduceToNat] at ho17; rw [← Ny215.out] at ho17)); have n0_ := Aside0.mk (Kd.V_lower (Kd.V_mono (ok' := fun k_ => k_ ≠ gb213) ho17 (fun k_ hk_ => (Kd.freshB (g := gb213) (o := .cells #[.string (⟨#[]⟩ : ByteArray), .string (⟨#[]⟩ : ByteArray), .string (⟨#[]⟩ : ByteArray), .string (⟨#[]⟩ : ByteArray), .slice none 0 0] 25 (0, 0)) (by (with_reducible repeat (first | refine blk_drewN ?_ _ | refine blk_drew ?_ | refine blk_alloc ?_ _)); exact BK213.out) k_ hk_))) (below_size (by repeat (first | (with_reducible first | exact HB.out | apply below_alloc | apply pw_below_drewN | apply below_drew1 | refine below_set ?_ GE213.out) | exact HB.out)))); have n1_ := Aside0.mk (blk_below (g := gb213) (o := .cells #[.string (⟨#[]⟩ : ByteArray), .string (⟨#[]⟩ : ByteArray), .string (⟨#[]⟩ : ByteArray), .string (⟨#[]⟩ : ByteArray), .slice none 0 0] 25 (0, 0)) (by (with_reducible repeat (first | refine blk_drewN ?_ _ | refine blk_drew ?_ | refine blk_alloc ?_ _)); exact BK213.out) hb); have n2_ := Aside0.mk (below_step (by repeat (first | (with_reducible first | exact HB.out | apply below_alloc | apply pw_below_drewN | apply below_drew1 | refine below_set ?_ GE213.out) | exact HB.out)) hb); clear BK213; clear HB; have HO217 := n0_; have BK213 := n1_; have HB := n2_; clear n0_ n1_ n2_; clear hb ho17; obtain ⟨Ao18, co18, eo18⟩ := Kd.V_slice HO217.out; subst eo18) | ((with_reducible refine gate_callee (f := 34) rfl ?_); refine goesL_ (some 28) rfl rfl Tryd.func34 (by kernel_rfl) rfl #[.slice A0 (l0.take ((ji2) : Int).toNat).length c0, .slice Ao18 y215.length co18] rfl (by (try simp only [List.map_toArray, List.map_cons, List.map_nil]); first | done | (rw [show (l0.take ((ji2) : Int).toNat).length = (ji2).toNat from (by rw [List.length_take]; have h_ : ((ji2) : Int) ≤ (l0.length : Int) := of_decide_eq_true (by first | (with_reducible assumption) | assumption); omega)] <;> rfl) | (simp only [hji2]; rfl) | rfl | (simp only [List.length_drop, List.length_take]; rfl)) ?_; (with_reducible refine (bytes_Index.calls _ _ (l0.take ((ji2) : Int).toNat) _ _ y215 t218 _ ?side1 ?side2 ?side3 ?side4 ?side5 A5.out).mono ?_); (case side1 => exact ML.keep HML.out (by repeat (first | (with_reducible first | exact HB.out | apply below_alloc | apply pw_below_drewN | apply below_drew1 | refine below_set ?_ GE213.out) | exact HB.out))); (case side2 => repeat (first | exact (Kd.C_below HR214.out HB.out) | (with_reducible refine Kd.C_alloc ?_ _) | (with_reducible refine Kd.C_drewN ?_ _) | (with_reducible refine Kd.C_drew ?_))); (case side3 => exact HC214.out); (case side4 => repeat (first | exact (Kd.V_reads' HO217.out).2.2 | (with_reducible refine Kd.C_alloc ?_ _) | (with_reducible refine Kd.C_drewN ?_ _) | (with_reducible refine Kd.C_drew ?_))); (case side5 => exact (Kd.V_reads' HO217.out).2.1); rintro e w' ⟨rfl, ⟨nd, rfl⟩⟩; refine ⟨_, rfl, ?_⟩; (try (rw [drewN_self w16]; generalize hq_ : World.drewN w16 _ = w16; have n0_ : Aside0 (Kd.V (Kd.int .u8) 5 w16 w.heap.size (fun k_ => k_ ≠ gb213) (.slice Ao18 y215.length co18) y215) := ⟨by rw [← hq_]; exact (by (with_reducible repeat (first | apply Kd.V_alloc | apply Kd.V_drewN | apply Kd.V_drew)); exact HO217.out)⟩; have n1_ : Aside0 (w16.heap[gb213]? = some (.cells #[.string (⟨#[]⟩ : ByteArray), .string (⟨#[]⟩ : ByteArray), .string (⟨#[]⟩ : ByteArray), .string (⟨#[]⟩ : ByteArray), .slice none 0 0] 25 (0, 0))) := ⟨by rw [← hq_]; exact (by (with_reducible repeat (first | refine blk_drewN ?_ _ | refine blk_drew ?_ | refine blk_alloc ?_ _)); exact BK213.out)⟩; have n2_ : Aside0 (Below w.heap.size w w16) := ⟨by rw [← hq_]; exact (by repeat (first | (with_reducible first | exact HB.out | apply below_alloc | apply pw_below_drewN | apply below_drew1 | refine below_set ?_ GE213.out) | exact HB.out))⟩; clear HO217 BK213 HB hq_; have HO217 := n0_; have BK213 := n1_; have HB := n2_; clear n0_ n1_ n2_)); have hcz19_0 : w16.cell? ⟨gb213, 0, none⟩ = some (.string (⟨#[]⟩ : ByteArray)) := (blk_cell BK213.out 0).trans rfl; have hcz19_1 : w16.cell? ⟨gb213, 1, none⟩ = some (.string (⟨#[]⟩ : ByteArray)) := (blk_cell BK213.out 1).trans rfl; have hcz19_2 : w16.cell? ⟨gb213, 2, none⟩ = some (.string (⟨#[]⟩ : ByteArray)) := (blk_cell BK213.out 2).trans rfl; have hcz19_3 : w16.cell? ⟨gb213, 3, none⟩ = some (.string (⟨#[]⟩ : ByteArray)) := (blk_cell BK213.out 3).trans rfl; have hcz19_4 : w16.cell? ⟨gb213, 4, none⟩ = some (.slice none 0 0) := (blk_cell BK213.out 4).trans rfl; have hfz19_0 := blk_frozen BK213.out 0; have hfz19_1 := blk_frozen BK213.out 1; have hfz19_2 := blk_frozen BK213.out 2; have hfz19_3 := blk_frozen BK213.out 3; have hfz19_4 := blk_frozen BK213.out 4))
          (try ((with_reducible refine wp_goto ?_); refine Or.inl ⟨rfl, ?_⟩; refine hK0.out _ _ ?_; go_wp2))
          (try simp only [Exit.two_ret, Exit.noGoto_ret])
          refine bodyPost_ret (results_ctt rfl _ _ gb213 25 #[.string (⟨#[]⟩ : ByteArray), .string (⟨#[]⟩ : ByteArray), .string (⟨#[]⟩ : ByteArray), .string (⟨#[]⟩ : ByteArray), .slice none 0 0] (0, 0) _ rfl (by (with_reducible repeat (first | refine blk_drewN ?_ _ | refine blk_drew ?_ | refine blk_alloc ?_ _)); refine blk_put (cs := #[.string (⟨#[]⟩ : ByteArray), .string (⟨#[]⟩ : ByteArray), .string (⟨#[]⟩ : ByteArray), .string (⟨#[]⟩ : ByteArray), .slice none 0 0]) ?_ 4 _ rfl; (with_reducible repeat (first | refine blk_drewN ?_ _ | refine blk_drew ?_ | refine blk_alloc ?_ _)); refine blk_put (cs := #[.string (⟨#[]⟩ : ByteArray), .string (⟨#[]⟩ : ByteArray), .string (⟨#[]⟩ : ByteArray), .string (⟨#[]⟩ : ByteArray), .slice none 0 0]) ?_ 3 _ rfl; (with_reducible repeat (first | refine blk_drewN ?_ _ | refine blk_drew ?_ | refine blk_alloc ?_ _)); refine blk_put (cs := #[.string (⟨#[]⟩ : ByteArray), .string (⟨#[]⟩ : ByteArray), .string (⟨#[]⟩ : ByteArray), .string (⟨#[]⟩ : ByteArray), .slice none 0 0]) ?_ 2 _ rfl; (with_reducible repeat (first | refine blk_drewN ?_ _ | refine blk_drew ?_ | refine blk_alloc ?_ _)); refine blk_put (cs := #[.string (⟨#[]⟩ : ByteArray), .string (⟨#[]⟩ : ByteArray), .string (⟨#[]⟩ : ByteArray), .string (⟨#[]⟩ : ByteArray), .slice none 0 0]) ?_ 1 _ rfl; (with_reducible repeat (first | refine blk_drewN ?_ _ | refine blk_drew ?_ | refine blk_alloc ?_ _)); refine blk_put (cs := #[.string (⟨#[]⟩ : ByteArray), .string (⟨#[]⟩ : ByteArray), .string (⟨#[]⟩ : ByteArray), .string (⟨#[]⟩ : ByteArray), .slice none 0 0]) ?_ 0 _ rfl; (with_reducible repeat (first | refine blk_drewN ?_ _ | refine blk_drew ?_ | refine blk_alloc ?_ _)); exact BK213.out) Tryd.underlying25 rfl (by kernel_rfl)) rfl ?_
          exact ⟨_, by first | rfl | (simp [errW_none, errW_some] <;> rfl) | (simp only [← hji2]; first | rfl | (simp [errW_none, errW_some] <;> rfl)) | (simp [*, errW_none, errW_some] <;> rfl), by first | exact Kd.R_nil _ _ _ _ _ | exact Kd.N_nil _ _ _ _ _ | exact Kd.V_nil _ _ _ _ _ | exact Kd.Q_nil _ _ _ _ _ | exact Kd.S_nil _ _ _ _ _, by repeat (first | (with_reducible first | exact HB.out | apply below_alloc | apply pw_below_drewN | apply below_drew1 | refine below_set ?_ GE213.out) | exact HB.out)⟩
      · rw [if_neg c6] at H
        have c6b0 : decide (t218 < 0) = false := decide_eq_false c6
        clear c6
        by_cases c20 : 0 ≤ t218
        · rw [if_pos c20] at H
          have c20b0 := eq_true c20
          have c20b1 : decide (0 ≤ t218) = true := decide_eq_true c20
          clear c20
          by_cases c21 : t218 ≤ (l0.length : Int)
          · rw [if_pos c21] at H
            have c21b0 := eq_true c21
            have c21b1 : decide (t218 ≤ (l0.length : Int)) = true := decide_eq_true c21
            clear c21
            replace H := Option.bind_eq_some_iff.mp H
            obtain ⟨t220, A220, H⟩ := H
            replace H : (if 0 < (t220.length : Int) then ((strings_Cut.f (rdOf ByteArray.empty t220 0) (⟨#[32]⟩ : ByteArray)).bind fun bt225 => ((strings_Cut.f bt225.2.1 (⟨#[32]⟩ : ByteArray)).bind fun bt228 => ((head_target.f k bt228.1).bind fun bt231 => (if bt231.2.2.2 = true then ((head_token.f k bt225.1).bind fun t235 => (if t235 = true then (head_Parse.j0 k t218 t220 0 1 (⟨#[]⟩ : ByteArray) bt225.1 (bt228.2.1.toList != ([72, 84, 84, 80, 47, 49, 46, 49] : List UInt8)) (⟨#[]⟩ : ByteArray) bt231.1 bt231.2.1 bt231.2.2.1) else (head_Parse.j0 k t218 t220 0 1 (⟨#[]⟩ : ByteArray) bt225.1 true (⟨#[]⟩ : ByteArray) bt231.1 bt231.2.1 bt231.2.2.1))) else (head_Parse.j0 k t218 t220 0 1 (⟨#[]⟩ : ByteArray) bt225.1 true (⟨#[]⟩ : ByteArray) bt231.1 bt231.2.1 bt231.2.2.1))))) else (none)) = some (r1, r2, r3, r4, r5, r6, r7) := H
            have A22 := Aside0.mk A220
            clear A220
            by_cases c23 : 0 < (t220.length : Int)
            · rw [if_pos c23] at H
              have c23b0 : decide (0 < (t220.length : Int)) = true := decide_eq_true c23
              have c23b1 : decide (0 < t220.length) = true := decide_eq_true (by omega)
              clear c23
              replace H := Option.bind_eq_some_iff.mp H
              obtain ⟨⟨t225, t226, t227⟩, A240, H⟩ := H
              replace H : ((strings_Cut.f t226 (⟨#[32]⟩ : ByteArray)).bind fun bt228 => ((head_target.f k bt228.1).bind fun bt231 => (if bt231.2.2.2 = true then ((head_token.f k t225).bind fun t235 => (if t235 = true then (head_Parse.j0 k t218 t220 0 1 (⟨#[]⟩ : ByteArray) t225 (bt228.2.1.toList != ([72, 84, 84, 80, 47, 49, 46, 49] : List UInt8)) (⟨#[]⟩ : ByteArray) bt231.1 bt231.2.1 bt231.2.2.1) else (head_Parse.j0 k t218 t220 0 1 (⟨#[]⟩ : ByteArray) t225 true (⟨#[]⟩ : ByteArray) bt231.1 bt231.2.1 bt231.2.2.1))) else (head_Parse.j0 k t218 t220 0 1 (⟨#[]⟩ : ByteArray) t225 true (⟨#[]⟩ : ByteArray) bt231.1 bt231.2.1 bt231.2.2.1)))) = some (r1, r2, r3, r4, r5, r6, r7) := H
              have A24 := Aside0.mk A240
              clear A240
              replace H := Option.bind_eq_some_iff.mp H
              obtain ⟨⟨t228, t229, t230⟩, A250, H⟩ := H
              replace H : ((head_target.f k t228).bind fun bt231 => (if bt231.2.2.2 = true then ((head_token.f k t225).bind fun t235 => (if t235 = true then (head_Parse.j0 k t218 t220 0 1 (⟨#[]⟩ : ByteArray) t225 (t229.toList != ([72, 84, 84, 80, 47, 49, 46, 49] : List UInt8)) (⟨#[]⟩ : ByteArray) bt231.1 bt231.2.1 bt231.2.2.1) else (head_Parse.j0 k t218 t220 0 1 (⟨#[]⟩ : ByteArray) t225 true (⟨#[]⟩ : ByteArray) bt231.1 bt231.2.1 bt231.2.2.1))) else (head_Parse.j0 k t218 t220 0 1 (⟨#[]⟩ : ByteArray) t225 true (⟨#[]⟩ : ByteArray) bt231.1 bt231.2.1 bt231.2.2.1))) = some (r1, r2, r3, r4, r5, r6, r7) := H
              have A25 := Aside0.mk A250
              clear A250
              replace H := Option.bind_eq_some_iff.mp H
              obtain ⟨⟨t231, t232, t233, t234⟩, A260, H⟩ := H
              replace H : (if t234 = true then ((head_token.f k t225).bind fun t235 => (if t235 = true then (head_Parse.j0 k t218 t220 0 1 (⟨#[]⟩ : ByteArray) t225 (t229.toList != ([72, 84, 84, 80, 47, 49, 46, 49] : List UInt8)) (⟨#[]⟩ : ByteArray) t231 t232 t233) else (head_Parse.j0 k t218 t220 0 1 (⟨#[]⟩ : ByteArray) t225 true (⟨#[]⟩ : ByteArray) t231 t232 t233))) else (head_Parse.j0 k t218 t220 0 1 (⟨#[]⟩ : ByteArray) t225 true (⟨#[]⟩ : ByteArray) t231 t232 t233)) = some (r1, r2, r3, r4, r5, r6, r7) := H
              have A26 := Aside0.mk A260
              clear A260
              have HC27 := Aside0.mk H
              clear H
              go_enter Tryd.func14, Tryd.ntmps14
              go_wp2_with (first | ((with_reducible refine gate_dst (N := 2) rfl ?_); refine box_event ?hg (N := 2) ?hd (cs := #[.string (⟨#[]⟩ : ByteArray), .string (⟨#[]⟩ : ByteArray), .string (⟨#[]⟩ : ByteArray), .string (⟨#[]⟩ : ByteArray), .slice none 0 0]) (t := 25) ?hr ?_; (case hd => rfl); (case hg => rfl); (case hr => first | (go_simp; done) | (go_simp; rfl)); intro gb213 hg w28 hbox hb; have n0_ := Aside0.mk (below_step (by repeat (first | (with_reducible first | exact HB.out | apply below_alloc | apply pw_below_drewN | apply below_drew1) | exact HB.out)) hb); have n1_ := Aside0.mk (hbox); have n2_ := Aside0.mk ((by rw [hg]; exact (below_size (by repeat (first | (with_reducible first | exact HB.out | apply below_alloc | apply pw_below_drewN | apply below_drew1) | exact HB.out))) : w.heap.size ≤ gb213)); have n3_ := Aside0.mk ((by rw [hg]; exact (below_size (by repeat (first | (with_reducible first | exact HB.out | apply below_alloc | apply pw_below_drewN | apply below_drew1) | exact HB.out))) : w.heap.size ≤ gb213)); clear HB; have HB := n0_; have BK213 := n1_; have GW213 := n2_; have GE213 := n3_; clear n0_ n1_ n2_ n3_; clear hb hbox hg; obtain ⟨i029, hi029, _, hsz29, _⟩ := info_parts info5; obtain ⟨hcut29, hA29, hC29⟩ := print_take_of (P := Tryd.prog) (Value.int .u8) 0 22 5 .i64 Tryd.underlying22 hi029 hsz29 A0 c0 l0 (ji2) (of_decide_eq_true (by first | (with_reducible assumption) | assumption)) (of_decide_eq_true (by first | (with_reducible assumption) | assumption)) HC0.out; have HR214 := Aside0.mk (Kd.C_of_reads (h1 := fun _ => rfl) (hA29 _ (Kd.reads_of_C HR0.out))); have HC214 := Aside0.mk hC29; clear hA29 hC29 hi029 hsz29) | ((with_reducible refine gate_dst (N := 27) rfl ?_); refine Kd.V_lit (Kd.int .u8) _ 5 ?hg (N := 27) ?hd (xs := ([13, 10, 13, 10] : List Int)) (inner := [.int .u8 13, .int .u8 10, .int .u8 13, .int .u8 10]) (ok := fun k_ => w28.heap.size ≤ k_) (okp := fun _ => False) ?hr ?hp (fun _ hk => hk.elim) (Nat.le_refl _) (Below.refl _ _) (Nat.le_refl _) (by simp) ?_; (case hd => rfl); (case hg => rfl); (case hr => first | (go_simp; done) | (go_simp; rfl)); (case hp => exact (Reps.one (show Kd.M (Kd.int .u8) _ _ _ 13 [.int .u8 13] from rfl) (Reps.one (show Kd.M (Kd.int .u8) _ _ _ 10 [.int .u8 10] from rfl) (Reps.one (show Kd.M (Kd.int .u8) _ _ _ 13 [.int .u8 13] from rfl) (Reps.one (show Kd.M (Kd.int .u8) _ _ _ 10 [.int .u8 10] from rfl) (Reps.none _ _)))))); intro v216 w30 ho31 hb hg_ hnew_; clear hg_ hnew_; (first | rw [← Ny215.out] at ho31 | (simp only [Int.reduceToNat] at ho31; rw [← Ny215.out] at ho31)); have n0_ := Aside0.mk (Kd.V_lower (Kd.V_mono (ok' := fun k_ => k_ ≠ gb213) ho31 (fun k_ hk_ => (Kd.freshB (g := gb213) (o := .cells #[.string (⟨#[]⟩ : ByteArray), .string (⟨#[]⟩ : ByteArray), .string (⟨#[]⟩ : ByteArray), .string (⟨#[]⟩ : ByteArray), .slice none 0 0] 25 (0, 0)) (by (with_reducible repeat (first | refine blk_drewN ?_ _ | refine blk_drew ?_ | refine blk_alloc ?_ _)); exact BK213.out) k_ hk_))) (below_size (by repeat (first | (with_reducible first | exact HB.out | apply below_alloc | apply pw_below_drewN | apply below_drew1 | refine below_set ?_ GE213.out) | exact HB.out)))); have n1_ := Aside0.mk (blk_below (g := gb213) (o := .cells #[.string (⟨#[]⟩ : ByteArray), .string (⟨#[]⟩ : ByteArray), .string (⟨#[]⟩ : ByteArray), .string (⟨#[]⟩ : ByteArray), .slice none 0 0] 25 (0, 0)) (by (with_reducible repeat (first | refine blk_drewN ?_ _ | refine blk_drew ?_ | refine blk_alloc ?_ _)); exact BK213.out) hb); have n2_ := Aside0.mk (below_step (by repeat (first | (with_reducible first | exact HB.out | apply below_alloc | apply pw_below_drewN | apply below_drew1 | refine below_set ?_ GE213.out) | exact HB.out)) hb); clear BK213; clear HB; have HO217 := n0_; have BK213 := n1_; have HB := n2_; clear n0_ n1_ n2_; clear hb ho31; obtain ⟨Ao32, co32, eo32⟩ := Kd.V_slice HO217.out; subst eo32) | ((with_reducible refine gate_callee (f := 34) rfl ?_); refine goesL_ (some 28) rfl rfl Tryd.func34 (by kernel_rfl) rfl #[.slice A0 (l0.take ((ji2) : Int).toNat).length c0, .slice Ao32 y215.length co32] rfl (by (try simp only [List.map_toArray, List.map_cons, List.map_nil]); first | done | (rw [show (l0.take ((ji2) : Int).toNat).length = (ji2).toNat from (by rw [List.length_take]; have h_ : ((ji2) : Int) ≤ (l0.length : Int) := of_decide_eq_true (by first | (with_reducible assumption) | assumption); omega)] <;> rfl) | (simp only [hji2]; rfl) | rfl | (simp only [List.length_drop, List.length_take]; rfl)) ?_; (with_reducible refine (bytes_Index.calls _ _ (l0.take ((ji2) : Int).toNat) _ _ y215 t218 _ ?side1 ?side2 ?side3 ?side4 ?side5 A5.out).mono ?_); (case side1 => exact ML.keep HML.out (by repeat (first | (with_reducible first | exact HB.out | apply below_alloc | apply pw_below_drewN | apply below_drew1 | refine below_set ?_ GE213.out) | exact HB.out))); (case side2 => repeat (first | exact (Kd.C_below HR214.out HB.out) | (with_reducible refine Kd.C_alloc ?_ _) | (with_reducible refine Kd.C_drewN ?_ _) | (with_reducible refine Kd.C_drew ?_))); (case side3 => exact HC214.out); (case side4 => repeat (first | exact (Kd.V_reads' HO217.out).2.2 | (with_reducible refine Kd.C_alloc ?_ _) | (with_reducible refine Kd.C_drewN ?_ _) | (with_reducible refine Kd.C_drew ?_))); (case side5 => exact (Kd.V_reads' HO217.out).2.1); rintro e w' ⟨rfl, ⟨nd, rfl⟩⟩; refine ⟨_, rfl, ?_⟩; (try (rw [drewN_self w30]; generalize hq_ : World.drewN w30 _ = w30; have n0_ : Aside0 (Kd.V (Kd.int .u8) 5 w30 w.heap.size (fun k_ => k_ ≠ gb213) (.slice Ao32 y215.length co32) y215) := ⟨by rw [← hq_]; exact (by (with_reducible repeat (first | apply Kd.V_alloc | apply Kd.V_drewN | apply Kd.V_drew)); exact HO217.out)⟩; have n1_ : Aside0 (w30.heap[gb213]? = some (.cells #[.string (⟨#[]⟩ : ByteArray), .string (⟨#[]⟩ : ByteArray), .string (⟨#[]⟩ : ByteArray), .string (⟨#[]⟩ : ByteArray), .slice none 0 0] 25 (0, 0))) := ⟨by rw [← hq_]; exact (by (with_reducible repeat (first | refine blk_drewN ?_ _ | refine blk_drew ?_ | refine blk_alloc ?_ _)); exact BK213.out)⟩; have n2_ : Aside0 (Below w.heap.size w w30) := ⟨by rw [← hq_]; exact (by repeat (first | (with_reducible first | exact HB.out | apply below_alloc | apply pw_below_drewN | apply below_drew1 | refine below_set ?_ GE213.out) | exact HB.out))⟩; clear HO217 BK213 HB hq_; have HO217 := n0_; have BK213 := n1_; have HB := n2_; clear n0_ n1_ n2_)); obtain ⟨i033, hi033, _, hsz33, _⟩ := info_parts info5; obtain ⟨hcut33, hA33, hC33⟩ := print_take_of (P := Tryd.prog) (Value.int .u8) 0 22 5 .i64 Tryd.underlying22 hi033 hsz33 A0 c0 l0 t218 (of_decide_eq_true (by first | (with_reducible assumption) | assumption)) (of_decide_eq_true (by first | (with_reducible assumption) | assumption)) HC0.out; have HR219 := Aside0.mk (Kd.C_of_reads (h1 := fun _ => rfl) (hA33 _ (Kd.reads_of_C HR0.out))); have HC219 := Aside0.mk hC33; clear hA33 hC33 hi033 hsz33; have hcv34 := Kd.C_string (P := Tryd.prog) (A := A0) (c := c0) Tryd.underlying22 Tryd.underlying5 Tryd.underlying9 (Kd.C_below HR219.out HB.out); (try (have hcv34d := fun m_ : Nat => Kd.C_string (P := Tryd.prog) (A := A0) (c := c0) Tryd.underlying22 Tryd.underlying5 Tryd.underlying9 (Kd.C_drewN ((Kd.C_below HR219.out HB.out)) m_))); (try (have hcv34l := hcv34; rw [show (l0.take (t218 : Int).toNat).length = t218.toNat from (by rw [List.length_take]; have h_ : (t218 : Int) ≤ (l0.length : Int) := of_decide_eq_true (by first | (with_reducible assumption) | assumption); omega)] at hcv34l))) | ((with_reducible refine gate_callee (f := 35) rfl ?_); refine goesL_ (some 40) rfl rfl Tryd.func35 (by kernel_rfl) rfl #[.string (strOfNums (l0.take (t218 : Int).toNat)), .string (⟨#[13, 10]⟩ : ByteArray)] rfl (by (try simp only [List.map_toArray, List.map_cons, List.map_nil]); first | done | rfl | (simp only [List.length_drop, List.length_take]; rfl)) ?_; (with_reducible refine (strings_Split.calls (strOfNums (l0.take (t218 : Int).toNat)) (⟨#[13, 10]⟩ : ByteArray) t220 _ ?side1 A22.out).mono ?_); (case side1 => exact ML.keep HML.out (by repeat (first | (with_reducible first | exact HB.out | apply below_alloc | apply pw_below_drewN | apply below_drew1 | refine below_set ?_ GE213.out) | exact HB.out))); rintro e w35 ⟨v221, rfl, ho0, hb⟩; refine ⟨_, rfl, ?_⟩; have n0_ := Aside0.mk (Kd.V_elder' (by (with_reducible repeat (first | apply Kd.V_alloc | apply Kd.V_drewN | apply Kd.V_drew)); exact HO217.out) (Kd.R_base ho0) hb); have n1_ := Aside0.mk (Kd.R_lower ho0 (below_size (by repeat (first | (with_reducible first | exact HB.out | apply below_alloc | apply pw_below_drewN | apply below_drew1 | refine below_set ?_ GE213.out) | exact HB.out)))); have n2_ := Aside0.mk (blk_below (g := gb213) (o := .cells #[.string (⟨#[]⟩ : ByteArray), .string (⟨#[]⟩ : ByteArray), .string (⟨#[]⟩ : ByteArray), .string (⟨#[]⟩ : ByteArray), .slice none 0 0] 25 (0, 0)) (by (with_reducible repeat (first | refine blk_drewN ?_ _ | refine blk_drew ?_ | refine blk_alloc ?_ _)); exact BK213.out) hb); have n3_ := Aside0.mk (below_step (by repeat (first | (with_reducible first | exact HB.out | apply below_alloc | apply pw_below_drewN | apply below_drew1 | refine below_set ?_ GE213.out) | exact HB.out)) hb); clear HO217; clear BK213; clear HB; have HO217 := n0_; have HO222 := n1_; have BK213 := n2_; have HB := n3_; clear n0_ n1_ n2_ n3_; (try clear hb); (try clear hb2); (try clear hk); (try clear hi); (try clear ho0)) | ((with_reducible refine gate_dst (N := 7) rfl ?_); refine box_event ?hg (N := 7) ?hd (cs := #[.string (⟨#[]⟩ : ByteArray), .string (⟨#[]⟩ : ByteArray), .string (⟨#[]⟩ : ByteArray), .string (⟨#[]⟩ : ByteArray), .slice none 0 0]) (t := 25) ?hr ?_; (case hd => rfl); (case hg => rfl); (case hr => first | (go_simp; done) | (go_simp; rfl)); intro gb223 hg w36 hbox hb; have n0_ := Aside0.mk (Kd.V_below (Kd.V_elderB (by (with_reducible repeat (first | apply Kd.V_alloc | apply Kd.V_drewN | apply Kd.V_drew)); exact HO217.out) gb223 (Nat.le_of_eq hg.symm)) hb); have n1_ := Aside0.mk (Kd.R_below (by (with_reducible repeat (first | apply Kd.R_alloc | apply Kd.R_drewN | apply Kd.R_drew)); exact HO222.out) hb); have n2_ := Aside0.mk (blk_below (g := gb213) (o := .cells #[.string (⟨#[]⟩ : ByteArray), .string (⟨#[]⟩ : ByteArray), .string (⟨#[]⟩ : ByteArray), .string (⟨#[]⟩ : ByteArray), .slice none 0 0] 25 (0, 0)) (by (with_reducible repeat (first | refine blk_drewN ?_ _ | refine blk_drew ?_ | refine blk_alloc ?_ _)); exact BK213.out) hb); have n3_ := Aside0.mk (below_step (by repeat (first | (with_reducible first | exact HB.out | apply below_alloc | apply pw_below_drewN | apply below_drew1 | refine below_set ?_ GE213.out) | exact HB.out)) hb); have n4_ := Aside0.mk (hbox); have n5_ := Aside0.mk ((by rw [hg]; exact (below_size (by repeat (first | (with_reducible first | exact HB.out | apply below_alloc | apply pw_below_drewN | apply below_drew1 | refine below_set ?_ GE213.out) | exact HB.out))) : w.heap.size ≤ gb223)); have n6_ := Aside0.mk ((by rw [hg]; exact (below_size (by repeat (first | (with_reducible first | exact HB.out | apply below_alloc | apply pw_below_drewN | apply below_drew1 | refine below_set ?_ GE213.out) | exact HB.out))) : w.heap.size ≤ gb223)); have n7_ := Aside0.mk ((by rw [hg]; exact Nat.ne_of_lt (blk_lt (g := gb213) (o := .cells #[.string (⟨#[]⟩ : ByteArray), .string (⟨#[]⟩ : ByteArray), .string (⟨#[]⟩ : ByteArray), .string (⟨#[]⟩ : ByteArray), .slice none 0 0] 25 (0, 0)) (by (with_reducible repeat (first | refine blk_drewN ?_ _ | refine blk_drew ?_ | refine blk_alloc ?_ _)); exact BK213.out)) : gb213 ≠ gb223)); have n8_ := Aside0.mk ((by rw [hg]; exact Nat.ne_of_gt (blk_lt (g := gb213) (o := .cells #[.string (⟨#[]⟩ : ByteArray), .string (⟨#[]⟩ : ByteArray), .string (⟨#[]⟩ : ByteArray), .string (⟨#[]⟩ : ByteArray), .slice none 0 0] 25 (0, 0)) (by (with_reducible repeat (first | refine blk_drewN ?_ _ | refine blk_drew ?_ | refine blk_alloc ?_ _)); exact BK213.out)) : gb223 ≠ gb213)); clear HO217; clear HO222; clear BK213; clear HB; have HO217 := n0_; have HO222 := n1_; have BK213 := n2_; have HB := n3_; have BK223 := n4_; have GW223 := n5_; have GE223 := n6_; have NB213_223 := n7_; have NB223_213 := n8_; clear n0_ n1_ n2_ n3_ n4_ n5_ n6_ n7_ n8_; clear hb hbox hg; obtain ⟨Ao37, co37, eo37⟩ := Kd.R_slice HO222.out; subst eo37; have p224 : 0 ≤ (0 : Int) := (by omega); have q224 : 0 < (t220.length : Int) := of_decide_eq_true (by first | (with_reducible assumption) | assumption); obtain ⟨ad224, e224, hx224_0⟩ := Kd.at_string (Kd.R_reads' HO222.out).2.2 0 p224 q224; cases e224; have qi224 : (0 < t220.length) = True := eq_true (by omega); (try rw [show ((0 : Int)).toNat = 0 from rfl] at hx224_0); (try rw [Addr.add_zero'] at hx224_0); replace p224 := eq_true p224; replace q224 := eq_true q224) | ((with_reducible refine gate_callee (f := 36) rfl ?_); refine goesL_ (some 45) rfl rfl Tryd.func36 (by kernel_rfl) rfl #[.string (rdOf ByteArray.empty t220 0), .string (⟨#[32]⟩ : ByteArray)] rfl (by (try simp only [List.map_toArray, List.map_cons, List.map_nil]); first | done | rfl | (simp only [List.length_drop, List.length_take]; rfl)) ?_; (with_reducible refine (strings_Cut.calls (rdOf ByteArray.empty t220 0) (⟨#[32]⟩ : ByteArray) t225 t226 t227 _ ?side1 A24.out).mono ?_); (case side1 => exact ML.keep HML.out (by repeat (first | (with_reducible first | exact HB.out | apply below_alloc | apply pw_below_drewN | apply below_drew1 | refine below_set ?_ GE213.out | refine below_set ?_ GE223.out) | exact HB.out))); rintro e w' ⟨rfl, ⟨nd, rfl⟩⟩; refine ⟨_, rfl, ?_⟩; (try (rw [drewN_self w36]; generalize hq_ : World.drewN w36 _ = w36; have n0_ : Aside0 (Kd.V (Kd.int .u8) 5 w36 w.heap.size (fun k_ => some k_ ≠ (.slice (some ad224) t220.length co37 : Value).ownBlock ∧ k_ ≠ gb213 ∧ k_ ≠ gb223) (.slice Ao32 y215.length co32) y215) := ⟨by rw [← hq_]; exact (by (with_reducible repeat (first | apply Kd.V_alloc | apply Kd.V_drewN | apply Kd.V_drew)); exact Kd.V_mono HO217.out (fun _ hk => ⟨hk.1.2, ⟨hk.1.1, hk.2⟩⟩))⟩; have n1_ : Aside0 (Kd.R Kd.string 9 w36 w.heap.size (fun _ => True) (.slice (some ad224) t220.length co37) t220) := ⟨by rw [← hq_]; exact (by (with_reducible repeat (first | apply Kd.R_alloc | apply Kd.R_drewN | apply Kd.R_drew)); exact HO222.out)⟩; have n2_ : Aside0 (w36.heap[gb213]? = some (.cells #[.string (⟨#[]⟩ : ByteArray), .string (⟨#[]⟩ : ByteArray), .string (⟨#[]⟩ : ByteArray), .string (⟨#[]⟩ : ByteArray), .slice none 0 0] 25 (0, 0))) := ⟨by rw [← hq_]; exact (by (with_reducible repeat (first | refine blk_drewN ?_ _ | refine blk_drew ?_ | refine blk_alloc ?_ _)); exact BK213.out)⟩; have n3_ : Aside0 (w36.heap[gb223]? = some (.cells #[.string (⟨#[]⟩ : ByteArray), .string (⟨#[]⟩ : ByteArray), .string (⟨#[]⟩ : ByteArray), .string (⟨#[]⟩ : ByteArray), .slice none 0 0] 25 (0, 0))) := ⟨by rw [← hq_]; exact (by (with_reducible repeat (first | refine blk_drewN ?_ _ | refine blk_drew ?_ | refine blk_alloc ?_ _)); exact BK223.out)⟩; have n4_ : Aside0 (Below w.heap.size w w36) := ⟨by rw [← hq_]; exact (by repeat (first | (with_reducible first | exact HB.out | apply below_alloc | apply pw_below_drewN | apply below_drew1 | refine below_set ?_ GE213.out | refine below_set ?_ GE223.out) | exact HB.out))⟩; clear HO217 HO222 BK213 BK223 HB hq_; have HO217 := n0_; have HO222 := n1_; have BK213 := n2_; have BK223 := n3_; have HB := n4_; clear n0_ n1_ n2_ n3_ n4_))) | ((with_reducible refine gate_callee (f := 36) rfl ?_); refine goesL_ (some 51) rfl rfl Tryd.func36 (by kernel_rfl) rfl #[.string t226, .string (⟨#[32]⟩ : ByteArray)] rfl (by (try simp only [List.map_toArray, List.map_cons, List.map_nil]); first | done | rfl | (simp only [List.length_drop, List.length_take]; rfl)) ?_; (with_reducible refine (strings_Cut.calls t226 (⟨#[32]⟩ : ByteArray) t228 t229 t230 _ ?side1 A25.out).mono ?_); (case side1 => exact ML.keep HML.out (by repeat (first | (with_reducible first | exact HB.out | apply below_alloc | apply pw_below_drewN | apply below_drew1 | refine below_set ?_ GE213.out | refine below_set ?_ GE223.out) | exact HB.out))); rintro e w' ⟨rfl, ⟨nd, rfl⟩⟩; refine ⟨_, rfl, ?_⟩; (try (rw [drewN_self w36]; generalize hq_ : World.drewN w36 _ = w36; have n0_ : Aside0 (Kd.V (Kd.int .u8) 5 w36 w.heap.size (fun k_ => some k_ ≠ (.slice (some ad224) t220.length co37 : Value).ownBlock ∧ k_ ≠ gb213 ∧ k_ ≠ gb223) (.slice Ao32 y215.length co32) y215) := ⟨by rw [← hq_]; exact (by (with_reducible repeat (first | apply Kd.V_alloc | apply Kd.V_drewN | apply Kd.V_drew)); exact Kd.V_mono HO217.out (fun _ hk => ⟨hk.1.2, ⟨hk.1.1, hk.2⟩⟩))⟩; have n1_ : Aside0 (Kd.R Kd.string 9 w36 w.heap.size (fun _ => True) (.slice (some ad224) t220.length co37) t220) := ⟨by rw [← hq_]; exact (by (with_reducible repeat (first | apply Kd.R_alloc | apply Kd.R_drewN | apply Kd.R_drew)); exact HO222.out)⟩; have n2_ : Aside0 (w36.heap[gb213]? = some (.cells #[.string (⟨#[]⟩ : ByteArray), .string (⟨#[]⟩ : ByteArray), .string (⟨#[]⟩ : ByteArray), .string (⟨#[]⟩ : ByteArray), .slice none 0 0] 25 (0, 0))) := ⟨by rw [← hq_]; exact (by (with_reducible repeat (first | refine blk_drewN ?_ _ | refine blk_drew ?_ | refine blk_alloc ?_ _)); exact BK213.out)⟩; have n3_ : Aside0 (w36.heap[gb223]? = some (.cells #[.string (⟨#[]⟩ : ByteArray), .string (⟨#[]⟩ : ByteArray), .string (⟨#[]⟩ : ByteArray), .string (⟨#[]⟩ : ByteArray), .slice none 0 0] 25 (0, 0))) := ⟨by rw [← hq_]; exact (by (with_reducible repeat (first | refine blk_drewN ?_ _ | refine blk_drew ?_ | refine blk_alloc ?_ _)); exact BK223.out)⟩; have n4_ : Aside0 (Below w.heap.size w w36) := ⟨by rw [← hq_]; exact (by repeat (first | (with_reducible first | exact HB.out | apply below_alloc | apply pw_below_drewN | apply below_drew1 | refine below_set ?_ GE213.out | refine below_set ?_ GE223.out) | exact HB.out))⟩; clear HO217 HO222 BK213 BK223 HB hq_; have HO217 := n0_; have HO222 := n1_; have BK213 := n2_; have BK223 := n3_; have HB := n4_; clear n0_ n1_ n2_ n3_ n4_))) | ((with_reducible refine gate_callee (f := 37) rfl ?_); refine goesL_ (some 57) rfl rfl Tryd.func37 (by kernel_rfl) rfl #[.string t228] rfl (by (try simp only [List.map_toArray, List.map_cons, List.map_nil]); first | done | rfl | (simp only [List.length_drop, List.length_take]; rfl)) ?_; (with_reducible refine (head_target.calls k t228 t231 t232 t233 t234 _ ?side1 A26.out).mono ?_); (case side1 => exact ML.keep HML.out (by repeat (first | (with_reducible first | exact HB.out | apply below_alloc | apply pw_below_drewN | apply below_drew1 | refine below_set ?_ GE213.out | refine below_set ?_ GE223.out) | exact HB.out))); rintro e w38 ⟨rfl, hb⟩; refine ⟨_, rfl, ?_⟩; have n0_ := Aside0.mk (Kd.V_below (by (with_reducible repeat (first | apply Kd.V_alloc | apply Kd.V_drewN | apply Kd.V_drew)); exact HO217.out) hb); have n1_ := Aside0.mk (Kd.R_below (by (with_reducible repeat (first | apply Kd.R_alloc | apply Kd.R_drewN | apply Kd.R_drew)); exact HO222.out) hb); have n2_ := Aside0.mk (blk_below (g := gb213) (o := .cells #[.string (⟨#[]⟩ : ByteArray), .string (⟨#[]⟩ : ByteArray), .string (⟨#[]⟩ : ByteArray), .string (⟨#[]⟩ : ByteArray), .slice none 0 0] 25 (0, 0)) (by (with_reducible repeat (first | refine blk_drewN ?_ _ | refine blk_drew ?_ | refine blk_alloc ?_ _)); exact BK213.out) hb); have n3_ := Aside0.mk (blk_below (g := gb223) (o := .cells #[.string (⟨#[]⟩ : ByteArray), .string (⟨#[]⟩ : ByteArray), .string (⟨#[]⟩ : ByteArray), .string (⟨#[]⟩ : ByteArray), .slice none 0 0] 25 (0, 0)) (by (with_reducible repeat (first | refine blk_drewN ?_ _ | refine blk_drew ?_ | refine blk_alloc ?_ _)); exact BK223.out) hb); have n4_ := Aside0.mk (below_step (by repeat (first | (with_reducible first | exact HB.out | apply below_alloc | apply pw_below_drewN | apply below_drew1 | refine below_set ?_ GE213.out | refine below_set ?_ GE223.out) | exact HB.out)) hb); clear HO217; clear HO222; clear BK213; clear BK223; clear HB; have HO217 := n0_; have HO222 := n1_; have BK213 := n2_; have BK223 := n3_; have HB := n4_; clear n0_ n1_ n2_ n3_ n4_; (try clear hb); (try clear hb2); (try clear hk); (try clear hi); have hnb39 := NB223_213.out; have hnc39 := NB213_223.out; have hcz40_0 : w38.cell? ⟨gb223, 0, none⟩ = some (.string (⟨#[]⟩ : ByteArray)) := (blk_cell BK223.out 0).trans rfl; have hcz40_1 : w38.cell? ⟨gb223, 1, none⟩ = some (.string (⟨#[]⟩ : ByteArray)) := (blk_cell BK223.out 1).trans rfl; have hcz40_2 : w38.cell? ⟨gb223, 2, none⟩ = some (.string (⟨#[]⟩ : ByteArray)) := (blk_cell BK223.out 2).trans rfl; have hcz40_3 : w38.cell? ⟨gb223, 3, none⟩ = some (.string (⟨#[]⟩ : ByteArray)) := (blk_cell BK223.out 3).trans rfl; have hcz40_4 : w38.cell? ⟨gb223, 4, none⟩ = some (.slice none 0 0) := (blk_cell BK223.out 4).trans rfl; have hfz40_0 := blk_frozen BK223.out 0; have hfz40_1 := blk_frozen BK223.out 1; have hfz40_2 := blk_frozen BK223.out 2; have hfz40_3 := blk_frozen BK223.out 3; have hfz40_4 := blk_frozen BK223.out 4))
              refine Scope.wp_scope_two (by rfl) (by rfl) (fun K0 hK0_ K1 hK1_ => ?_)
              have hK0 := Aside0.mk hK0_
              have hK1 := Aside0.mk hK1_
              clear hK0_ hK1_
              go_upto_region 13 with (first | ((with_reducible refine gate_dst (N := 2) rfl ?_); refine box_event ?hg (N := 2) ?hd (cs := #[.string (⟨#[]⟩ : ByteArray), .string (⟨#[]⟩ : ByteArray), .string (⟨#[]⟩ : ByteArray), .string (⟨#[]⟩ : ByteArray), .slice none 0 0]) (t := 25) ?hr ?_; (case hd => rfl); (case hg => rfl); (case hr => first | (go_simp; done) | (go_simp; rfl)); intro gb213 hg w28 hbox hb; have n0_ := Aside0.mk (below_step (by repeat (first | (with_reducible first | exact HB.out | apply below_alloc | apply pw_below_drewN | apply below_drew1) | exact HB.out)) hb); have n1_ := Aside0.mk (hbox); have n2_ := Aside0.mk ((by rw [hg]; exact (below_size (by repeat (first | (with_reducible first | exact HB.out | apply below_alloc | apply pw_below_drewN | apply below_drew1) | exact HB.out))) : w.heap.size ≤ gb213)); have n3_ := Aside0.mk ((by rw [hg]; exact (below_size (by repeat (first | (with_reducible first | exact HB.out | apply below_alloc | apply pw_below_drewN | apply below_drew1) | exact HB.out))) : w.heap.size ≤ gb213)); clear HB; have HB := n0_; have BK213 := n1_; have GW213 := n2_; have GE213 := n3_; clear n0_ n1_ n2_ n3_; clear hb hbox hg; obtain ⟨i029, hi029, _, hsz29, _⟩ := info_parts info5; obtain ⟨hcut29, hA29, hC29⟩ := print_take_of (P := Tryd.prog) (Value.int .u8) 0 22 5 .i64 Tryd.underlying22 hi029 hsz29 A0 c0 l0 (ji2) (of_decide_eq_true (by first | (with_reducible assumption) | assumption)) (of_decide_eq_true (by first | (with_reducible assumption) | assumption)) HC0.out; have HR214 := Aside0.mk (Kd.C_of_reads (h1 := fun _ => rfl) (hA29 _ (Kd.reads_of_C HR0.out))); have HC214 := Aside0.mk hC29; clear hA29 hC29 hi029 hsz29) | ((with_reducible refine gate_dst (N := 27) rfl ?_); refine Kd.V_lit (Kd.int .u8) _ 5 ?hg (N := 27) ?hd (xs := ([13, 10, 13, 10] : List Int)) (inner := [.int .u8 13, .int .u8 10, .int .u8 13, .int .u8 10]) (ok := fun k_ => w28.heap.size ≤ k_) (okp := fun _ => False) ?hr ?hp (fun _ hk => hk.elim) (Nat.le_refl _) (Below.refl _ _) (Nat.le_refl _) (by simp) ?_; (case hd => rfl); (case hg => rfl); (case hr => first | (go_simp; done) | (go_simp; rfl)); (case hp => exact (Reps.one (show Kd.M (Kd.int .u8) _ _ _ 13 [.int .u8 13] from rfl) (Reps.one (show Kd.M (Kd.int .u8) _ _ _ 10 [.int .u8 10] from rfl) (Reps.one (show Kd.M (Kd.int .u8) _ _ _ 13 [.int .u8 13] from rfl) (Reps.one (show Kd.M (Kd.int .u8) _ _ _ 10 [.int .u8 10] from rfl) (Reps.none _ _)))))); intro v216 w30 ho31 hb hg_ hnew_; clear hg_ hnew_; (first | rw [← Ny215.out] at ho31 | (simp only [Int.reduceToNat] at ho31; rw [← Ny215.out] at ho31)); have n0_ := Aside0.mk (Kd.V_lower (Kd.V_mono (ok' := fun k_ => k_ ≠ gb213) ho31 (fun k_ hk_ => (Kd.freshB (g := gb213) (o := .cells #[.string (⟨#[]⟩ : ByteArray), .string (⟨#[]⟩ : ByteArray), .string (⟨#[]⟩ : ByteArray), .string (⟨#[]⟩ : ByteArray), .slice none 0 0] 25 (0, 0)) (by (with_reducible repeat (first | refine blk_drewN ?_ _ | refine blk_drew ?_ | refine blk_alloc ?_ _)); exact BK213.out) k_ hk_))) (below_size (by repeat (first | (with_reducible first | exact HB.out | apply below_alloc | apply pw_below_drewN | apply below_drew1 | refine below_set ?_ GE213.out) | exact HB.out)))); have n1_ := Aside0.mk (blk_below (g := gb213) (o := .cells #[.string (⟨#[]⟩ : ByteArray), .string (⟨#[]⟩ : ByteArray), .string (⟨#[]⟩ : ByteArray), .string (⟨#[]⟩ : ByteArray), .slice none 0 0] 25 (0, 0)) (by (with_reducible repeat (first | refine blk_drewN ?_ _ | refine blk_drew ?_ | refine blk_alloc ?_ _)); exact BK213.out) hb); have n2_ := Aside0.mk (below_step (by repeat (first | (with_reducible first | exact HB.out | apply below_alloc | apply pw_below_drewN | apply below_drew1 | refine below_set ?_ GE213.out) | exact HB.out)) hb); clear BK213; clear HB; have HO217 := n0_; have BK213 := n1_; have HB := n2_; clear n0_ n1_ n2_; clear hb ho31; obtain ⟨Ao32, co32, eo32⟩ := Kd.V_slice HO217.out; subst eo32) | ((with_reducible refine gate_callee (f := 34) rfl ?_); refine goesL_ (some 28) rfl rfl Tryd.func34 (by kernel_rfl) rfl #[.slice A0 (l0.take ((ji2) : Int).toNat).length c0, .slice Ao32 y215.length co32] rfl (by (try simp only [List.map_toArray, List.map_cons, List.map_nil]); first | done | (rw [show (l0.take ((ji2) : Int).toNat).length = (ji2).toNat from (by rw [List.length_take]; have h_ : ((ji2) : Int) ≤ (l0.length : Int) := of_decide_eq_true (by first | (with_reducible assumption) | assumption); omega)] <;> rfl) | (simp only [hji2]; rfl) | rfl | (simp only [List.length_drop, List.length_take]; rfl)) ?_; (with_reducible refine (bytes_Index.calls _ _ (l0.take ((ji2) : Int).toNat) _ _ y215 t218 _ ?side1 ?side2 ?side3 ?side4 ?side5 A5.out).mono ?_); (case side1 => exact ML.keep HML.out (by repeat (first | (with_reducible first | exact HB.out | apply below_alloc | apply pw_below_drewN | apply below_drew1 | refine below_set ?_ GE213.out) | exact HB.out))); (case side2 => repeat (first | exact (Kd.C_below HR214.out HB.out) | (with_reducible refine Kd.C_alloc ?_ _) | (with_reducible refine Kd.C_drewN ?_ _) | (with_reducible refine Kd.C_drew ?_))); (case side3 => exact HC214.out); (case side4 => repeat (first | exact (Kd.V_reads' HO217.out).2.2 | (with_reducible refine Kd.C_alloc ?_ _) | (with_reducible refine Kd.C_drewN ?_ _) | (with_reducible refine Kd.C_drew ?_))); (case side5 => exact (Kd.V_reads' HO217.out).2.1); rintro e w' ⟨rfl, ⟨nd, rfl⟩⟩; refine ⟨_, rfl, ?_⟩; (try (rw [drewN_self w30]; generalize hq_ : World.drewN w30 _ = w30; have n0_ : Aside0 (Kd.V (Kd.int .u8) 5 w30 w.heap.size (fun k_ => k_ ≠ gb213) (.slice Ao32 y215.length co32) y215) := ⟨by rw [← hq_]; exact (by (with_reducible repeat (first | apply Kd.V_alloc | apply Kd.V_drewN | apply Kd.V_drew)); exact HO217.out)⟩; have n1_ : Aside0 (w30.heap[gb213]? = some (.cells #[.string (⟨#[]⟩ : ByteArray), .string (⟨#[]⟩ : ByteArray), .string (⟨#[]⟩ : ByteArray), .string (⟨#[]⟩ : ByteArray), .slice none 0 0] 25 (0, 0))) := ⟨by rw [← hq_]; exact (by (with_reducible repeat (first | refine blk_drewN ?_ _ | refine blk_drew ?_ | refine blk_alloc ?_ _)); exact BK213.out)⟩; have n2_ : Aside0 (Below w.heap.size w w30) := ⟨by rw [← hq_]; exact (by repeat (first | (with_reducible first | exact HB.out | apply below_alloc | apply pw_below_drewN | apply below_drew1 | refine below_set ?_ GE213.out) | exact HB.out))⟩; clear HO217 BK213 HB hq_; have HO217 := n0_; have BK213 := n1_; have HB := n2_; clear n0_ n1_ n2_)); obtain ⟨i033, hi033, _, hsz33, _⟩ := info_parts info5; obtain ⟨hcut33, hA33, hC33⟩ := print_take_of (P := Tryd.prog) (Value.int .u8) 0 22 5 .i64 Tryd.underlying22 hi033 hsz33 A0 c0 l0 t218 (of_decide_eq_true (by first | (with_reducible assumption) | assumption)) (of_decide_eq_true (by first | (with_reducible assumption) | assumption)) HC0.out; have HR219 := Aside0.mk (Kd.C_of_reads (h1 := fun _ => rfl) (hA33 _ (Kd.reads_of_C HR0.out))); have HC219 := Aside0.mk hC33; clear hA33 hC33 hi033 hsz33; have hcv34 := Kd.C_string (P := Tryd.prog) (A := A0) (c := c0) Tryd.underlying22 Tryd.underlying5 Tryd.underlying9 (Kd.C_below HR219.out HB.out); (try (have hcv34d := fun m_ : Nat => Kd.C_string (P := Tryd.prog) (A := A0) (c := c0) Tryd.underlying22 Tryd.underlying5 Tryd.underlying9 (Kd.C_drewN ((Kd.C_below HR219.out HB.out)) m_))); (try (have hcv34l := hcv34; rw [show (l0.take (t218 : Int).toNat).length = t218.toNat from (by rw [List.length_take]; have h_ : (t218 : Int) ≤ (l0.length : Int) := of_decide_eq_true (by first | (with_reducible assumption) | assumption); omega)] at hcv34l))) | ((with_reducible refine gate_callee (f := 35) rfl ?_); refine goesL_ (some 40) rfl rfl Tryd.func35 (by kernel_rfl) rfl #[.string (strOfNums (l0.take (t218 : Int).toNat)), .string (⟨#[13, 10]⟩ : ByteArray)] rfl (by (try simp only [List.map_toArray, List.map_cons, List.map_nil]); first | done | rfl | (simp only [List.length_drop, List.length_take]; rfl)) ?_; (with_reducible refine (strings_Split.calls (strOfNums (l0.take (t218 : Int).toNat)) (⟨#[13, 10]⟩ : ByteArray) t220 _ ?side1 A22.out).mono ?_); (case side1 => exact ML.keep HML.out (by repeat (first | (with_reducible first | exact HB.out | apply below_alloc | apply pw_below_drewN | apply below_drew1 | refine below_set ?_ GE213.out) | exact HB.out))); rintro e w35 ⟨v221, rfl, ho0, hb⟩; refine ⟨_, rfl, ?_⟩; have n0_ := Aside0.mk (Kd.V_elder' (by (with_reducible repeat (first | apply Kd.V_alloc | apply Kd.V_drewN | apply Kd.V_drew)); exact HO217.out) (Kd.R_base ho0) hb); have n1_ := Aside0.mk (Kd.R_lower ho0 (below_size (by repeat (first | (with_reducible first | exact HB.out | apply below_alloc | apply pw_below_drewN | apply below_drew1 | refine below_set ?_ GE213.out) | exact HB.out)))); have n2_ := Aside0.mk (blk_below (g := gb213) (o := .cells #[.string (⟨#[]⟩ : ByteArray), .string (⟨#[]⟩ : ByteArray), .string (⟨#[]⟩ : ByteArray), .string (⟨#[]⟩ : ByteArray), .slice none 0 0] 25 (0, 0)) (by (with_reducible repeat (first | refine blk_drewN ?_ _ | refine blk_drew ?_ | refine blk_alloc ?_ _)); exact BK213.out) hb); have n3_ := Aside0.mk (below_step (by repeat (first | (with_reducible first | exact HB.out | apply below_alloc | apply pw_below_drewN | apply below_drew1 | refine below_set ?_ GE213.out) | exact HB.out)) hb); clear HO217; clear BK213; clear HB; have HO217 := n0_; have HO222 := n1_; have BK213 := n2_; have HB := n3_; clear n0_ n1_ n2_ n3_; (try clear hb); (try clear hb2); (try clear hk); (try clear hi); (try clear ho0)) | ((with_reducible refine gate_dst (N := 7) rfl ?_); refine box_event ?hg (N := 7) ?hd (cs := #[.string (⟨#[]⟩ : ByteArray), .string (⟨#[]⟩ : ByteArray), .string (⟨#[]⟩ : ByteArray), .string (⟨#[]⟩ : ByteArray), .slice none 0 0]) (t := 25) ?hr ?_; (case hd => rfl); (case hg => rfl); (case hr => first | (go_simp; done) | (go_simp; rfl)); intro gb223 hg w36 hbox hb; have n0_ := Aside0.mk (Kd.V_below (Kd.V_elderB (by (with_reducible repeat (first | apply Kd.V_alloc | apply Kd.V_drewN | apply Kd.V_drew)); exact HO217.out) gb223 (Nat.le_of_eq hg.symm)) hb); have n1_ := Aside0.mk (Kd.R_below (by (with_reducible repeat (first | apply Kd.R_alloc | apply Kd.R_drewN | apply Kd.R_drew)); exact HO222.out) hb); have n2_ := Aside0.mk (blk_below (g := gb213) (o := .cells #[.string (⟨#[]⟩ : ByteArray), .string (⟨#[]⟩ : ByteArray), .string (⟨#[]⟩ : ByteArray), .string (⟨#[]⟩ : ByteArray), .slice none 0 0] 25 (0, 0)) (by (with_reducible repeat (first | refine blk_drewN ?_ _ | refine blk_drew ?_ | refine blk_alloc ?_ _)); exact BK213.out) hb); have n3_ := Aside0.mk (below_step (by repeat (first | (with_reducible first | exact HB.out | apply below_alloc | apply pw_below_drewN | apply below_drew1 | refine below_set ?_ GE213.out) | exact HB.out)) hb); have n4_ := Aside0.mk (hbox); have n5_ := Aside0.mk ((by rw [hg]; exact (below_size (by repeat (first | (with_reducible first | exact HB.out | apply below_alloc | apply pw_below_drewN | apply below_drew1 | refine below_set ?_ GE213.out) | exact HB.out))) : w.heap.size ≤ gb223)); have n6_ := Aside0.mk ((by rw [hg]; exact (below_size (by repeat (first | (with_reducible first | exact HB.out | apply below_alloc | apply pw_below_drewN | apply below_drew1 | refine below_set ?_ GE213.out) | exact HB.out))) : w.heap.size ≤ gb223)); have n7_ := Aside0.mk ((by rw [hg]; exact Nat.ne_of_lt (blk_lt (g := gb213) (o := .cells #[.string (⟨#[]⟩ : ByteArray), .string (⟨#[]⟩ : ByteArray), .string (⟨#[]⟩ : ByteArray), .string (⟨#[]⟩ : ByteArray), .slice none 0 0] 25 (0, 0)) (by (with_reducible repeat (first | refine blk_drewN ?_ _ | refine blk_drew ?_ | refine blk_alloc ?_ _)); exact BK213.out)) : gb213 ≠ gb223)); have n8_ := Aside0.mk ((by rw [hg]; exact Nat.ne_of_gt (blk_lt (g := gb213) (o := .cells #[.string (⟨#[]⟩ : ByteArray), .string (⟨#[]⟩ : ByteArray), .string (⟨#[]⟩ : ByteArray), .string (⟨#[]⟩ : ByteArray), .slice none 0 0] 25 (0, 0)) (by (with_reducible repeat (first | refine blk_drewN ?_ _ | refine blk_drew ?_ | refine blk_alloc ?_ _)); exact BK213.out)) : gb223 ≠ gb213)); clear HO217; clear HO222; clear BK213; clear HB; have HO217 := n0_; have HO222 := n1_; have BK213 := n2_; have HB := n3_; have BK223 := n4_; have GW223 := n5_; have GE223 := n6_; have NB213_223 := n7_; have NB223_213 := n8_; clear n0_ n1_ n2_ n3_ n4_ n5_ n6_ n7_ n8_; clear hb hbox hg; obtain ⟨Ao37, co37, eo37⟩ := Kd.R_slice HO222.out; subst eo37; have p224 : 0 ≤ (0 : Int) := (by omega); have q224 : 0 < (t220.length : Int) := of_decide_eq_true (by first | (with_reducible assumption) | assumption); obtain ⟨ad224, e224, hx224_0⟩ := Kd.at_string (Kd.R_reads' HO222.out).2.2 0 p224 q224; cases e224; have qi224 : (0 < t220.length) = True := eq_true (by omega); (try rw [show ((0 : Int)).toNat = 0 from rfl] at hx224_0); (try rw [Addr.add_zero'] at hx224_0); replace p224 := eq_true p224; replace q224 := eq_true q224) | ((with_reducible refine gate_callee (f := 36) rfl ?_); refine goesL_ (some 45) rfl rfl Tryd.func36 (by kernel_rfl) rfl #[.string (rdOf ByteArray.empty t220 0), .string (⟨#[32]⟩ : ByteArray)] rfl (by (try simp only [List.map_toArray, List.map_cons, List.map_nil]); first | done | rfl | (simp only [List.length_drop, List.length_take]; rfl)) ?_; (with_reducible refine (strings_Cut.calls (rdOf ByteArray.empty t220 0) (⟨#[32]⟩ : ByteArray) t225 t226 t227 _ ?side1 A24.out).mono ?_); (case side1 => exact ML.keep HML.out (by repeat (first | (with_reducible first | exact HB.out | apply below_alloc | apply pw_below_drewN | apply below_drew1 | refine below_set ?_ GE213.out | refine below_set ?_ GE223.out) | exact HB.out))); rintro e w' ⟨rfl, ⟨nd, rfl⟩⟩; refine ⟨_, rfl, ?_⟩; (try (rw [drewN_self w36]; generalize hq_ : World.drewN w36 _ = w36; have n0_ : Aside0 (Kd.V (Kd.int .u8) 5 w36 w.heap.size (fun k_ => some k_ ≠ (.slice (some ad224) t220.length co37 : Value).ownBlock ∧ k_ ≠ gb213 ∧ k_ ≠ gb223) (.slice Ao32 y215.length co32) y215) := ⟨by rw [← hq_]; exact (by (with_reducible repeat (first | apply Kd.V_alloc | apply Kd.V_drewN | apply Kd.V_drew)); exact Kd.V_mono HO217.out (fun _ hk => ⟨hk.1.2, ⟨hk.1.1, hk.2⟩⟩))⟩; have n1_ : Aside0 (Kd.R Kd.string 9 w36 w.heap.size (fun _ => True) (.slice (some ad224) t220.length co37) t220) := ⟨by rw [← hq_]; exact (by (with_reducible repeat (first | apply Kd.R_alloc | apply Kd.R_drewN | apply Kd.R_drew)); exact HO222.out)⟩; have n2_ : Aside0 (w36.heap[gb213]? = some (.cells #[.string (⟨#[]⟩ : ByteArray), .string (⟨#[]⟩ : ByteArray), .string (⟨#[]⟩ : ByteArray), .string (⟨#[]⟩ : ByteArray), .slice none 0 0] 25 (0, 0))) := ⟨by rw [← hq_]; exact (by (with_reducible repeat (first | refine blk_drewN ?_ _ | refine blk_drew ?_ | refine blk_alloc ?_ _)); exact BK213.out)⟩; have n3_ : Aside0 (w36.heap[gb223]? = some (.cells #[.string (⟨#[]⟩ : ByteArray), .string (⟨#[]⟩ : ByteArray), .string (⟨#[]⟩ : ByteArray), .string (⟨#[]⟩ : ByteArray), .slice none 0 0] 25 (0, 0))) := ⟨by rw [← hq_]; exact (by (with_reducible repeat (first | refine blk_drewN ?_ _ | refine blk_drew ?_ | refine blk_alloc ?_ _)); exact BK223.out)⟩; have n4_ : Aside0 (Below w.heap.size w w36) := ⟨by rw [← hq_]; exact (by repeat (first | (with_reducible first | exact HB.out | apply below_alloc | apply pw_below_drewN | apply below_drew1 | refine below_set ?_ GE213.out | refine below_set ?_ GE223.out) | exact HB.out))⟩; clear HO217 HO222 BK213 BK223 HB hq_; have HO217 := n0_; have HO222 := n1_; have BK213 := n2_; have BK223 := n3_; have HB := n4_; clear n0_ n1_ n2_ n3_ n4_))) | ((with_reducible refine gate_callee (f := 36) rfl ?_); refine goesL_ (some 51) rfl rfl Tryd.func36 (by kernel_rfl) rfl #[.string t226, .string (⟨#[32]⟩ : ByteArray)] rfl (by (try simp only [List.map_toArray, List.map_cons, List.map_nil]); first | done | rfl | (simp only [List.length_drop, List.length_take]; rfl)) ?_; (with_reducible refine (strings_Cut.calls t226 (⟨#[32]⟩ : ByteArray) t228 t229 t230 _ ?side1 A25.out).mono ?_); (case side1 => exact ML.keep HML.out (by repeat (first | (with_reducible first | exact HB.out | apply below_alloc | apply pw_below_drewN | apply below_drew1 | refine below_set ?_ GE213.out | refine below_set ?_ GE223.out) | exact HB.out))); rintro e w' ⟨rfl, ⟨nd, rfl⟩⟩; refine ⟨_, rfl, ?_⟩; (try (rw [drewN_self w36]; generalize hq_ : World.drewN w36 _ = w36; have n0_ : Aside0 (Kd.V (Kd.int .u8) 5 w36 w.heap.size (fun k_ => some k_ ≠ (.slice (some ad224) t220.length co37 : Value).ownBlock ∧ k_ ≠ gb213 ∧ k_ ≠ gb223) (.slice Ao32 y215.length co32) y215) := ⟨by rw [← hq_]; exact (by (with_reducible repeat (first | apply Kd.V_alloc | apply Kd.V_drewN | apply Kd.V_drew)); exact Kd.V_mono HO217.out (fun _ hk => ⟨hk.1.2, ⟨hk.1.1, hk.2⟩⟩))⟩; have n1_ : Aside0 (Kd.R Kd.string 9 w36 w.heap.size (fun _ => True) (.slice (some ad224) t220.length co37) t220) := ⟨by rw [← hq_]; exact (by (with_reducible repeat (first | apply Kd.R_alloc | apply Kd.R_drewN | apply Kd.R_drew)); exact HO222.out)⟩; have n2_ : Aside0 (w36.heap[gb213]? = some (.cells #[.string (⟨#[]⟩ : ByteArray), .string (⟨#[]⟩ : ByteArray), .string (⟨#[]⟩ : ByteArray), .string (⟨#[]⟩ : ByteArray), .slice none 0 0] 25 (0, 0))) := ⟨by rw [← hq_]; exact (by (with_reducible repeat (first | refine blk_drewN ?_ _ | refine blk_drew ?_ | refine blk_alloc ?_ _)); exact BK213.out)⟩; have n3_ : Aside0 (w36.heap[gb223]? = some (.cells #[.string (⟨#[]⟩ : ByteArray), .string (⟨#[]⟩ : ByteArray), .string (⟨#[]⟩ : ByteArray), .string (⟨#[]⟩ : ByteArray), .slice none 0 0] 25 (0, 0))) := ⟨by rw [← hq_]; exact (by (with_reducible repeat (first | refine blk_drewN ?_ _ | refine blk_drew ?_ | refine blk_alloc ?_ _)); exact BK223.out)⟩; have n4_ : Aside0 (Below w.heap.size w w36) := ⟨by rw [← hq_]; exact (by repeat (first | (with_reducible first | exact HB.out | apply below_alloc | apply pw_below_drewN | apply below_drew1 | refine below_set ?_ GE213.out | refine below_set ?_ GE223.out) | exact HB.out))⟩; clear HO217 HO222 BK213 BK223 HB hq_; have HO217 := n0_; have HO222 := n1_; have BK213 := n2_; have BK223 := n3_; have HB := n4_; clear n0_ n1_ n2_ n3_ n4_))) | ((with_reducible refine gate_callee (f := 37) rfl ?_); refine goesL_ (some 57) rfl rfl Tryd.func37 (by kernel_rfl) rfl #[.string t228] rfl (by (try simp only [List.map_toArray, List.map_cons, List.map_nil]); first | done | rfl | (simp only [List.length_drop, List.length_take]; rfl)) ?_; (with_reducible refine (head_target.calls k t228 t231 t232 t233 t234 _ ?side1 A26.out).mono ?_); (case side1 => exact ML.keep HML.out (by repeat (first | (with_reducible first | exact HB.out | apply below_alloc | apply pw_below_drewN | apply below_drew1 | refine below_set ?_ GE213.out | refine below_set ?_ GE223.out) | exact HB.out))); rintro e w38 ⟨rfl, hb⟩; refine ⟨_, rfl, ?_⟩; have n0_ := Aside0.mk (Kd.V_below (by (with_reducible repeat (first | apply Kd.V_alloc | apply Kd.V_drewN | apply Kd.V_drew)); exact HO217.out) hb); have n1_ := Aside0.mk (Kd.R_below (by (with_reducible repeat (first | apply Kd.R_alloc | apply Kd.R_drewN | apply Kd.R_drew)); exact HO222.out) hb); have n2_ := Aside0.mk (blk_below (g := gb213) (o := .cells #[.string (⟨#[]⟩ : ByteArray), .string (⟨#[]⟩ : ByteArray), .string (⟨#[]⟩ : ByteArray), .string (⟨#[]⟩ : ByteArray), .slice none 0 0] 25 (0, 0)) (by (with_reducible repeat (first | refine blk_drewN ?_ _ | refine blk_drew ?_ | refine blk_alloc ?_ _)); exact BK213.out) hb); have n3_ := Aside0.mk (blk_below (g := gb223) (o := .cells #[.string (⟨#[]⟩ : ByteArray), .string (⟨#[]⟩ : ByteArray), .string (⟨#[]⟩ : ByteArray), .string (⟨#[]⟩ : ByteArray), .slice none 0 0] 25 (0, 0)) (by (with_reducible repeat (first | refine blk_drewN ?_ _ | refine blk_drew ?_ | refine blk_alloc ?_ _)); exact BK223.out) hb); have n4_ := Aside0.mk (below_step (by repeat (first | (with_reducible first | exact HB.out | apply below_alloc | apply pw_below_drewN | apply below_drew1 | refine below_set ?_ GE213.out | refine below_set ?_ GE223.out) | exact HB.out)) hb); clear HO217; clear HO222; clear BK213; clear BK223; clear HB; have HO217 := n0_; have HO222 := n1_; have BK213 := n2_; have BK223 := n3_; have HB := n4_; clear n0_ n1_ n2_ n3_ n4_; (try clear hb); (try clear hb2); (try clear hk); (try clear hi); have hnb39 := NB223_213.out; have hnc39 := NB213_223.out; have hcz40_0 : w38.cell? ⟨gb223, 0, none⟩ = some (.string (⟨#[]⟩ : ByteArray)) := (blk_cell BK223.out 0).trans rfl; have hcz40_1 : w38.cell? ⟨gb223, 1, none⟩ = some (.string (⟨#[]⟩ : ByteArray)) := (blk_cell BK223.out 1).trans rfl; have hcz40_2 : w38.cell? ⟨gb223, 2, none⟩ = some (.string (⟨#[]⟩ : ByteArray)) := (blk_cell BK223.out 2).trans rfl; have hcz40_3 : w38.cell? ⟨gb223, 3, none⟩ = some (.string (⟨#[]⟩ : ByteArray)) := (blk_cell BK223.out 3).trans rfl; have hcz40_4 : w38.cell? ⟨gb223, 4, none⟩ = some (.slice none 0 0) := (blk_cell BK223.out 4).trans rfl; have hfz40_0 := blk_frozen BK223.out 0; have hfz40_1 := blk_frozen BK223.out 1; have hfz40_2 := blk_frozen BK223.out 2; have hfz40_3 := blk_frozen BK223.out 3; have hfz40_4 := blk_frozen BK223.out 4))
              (try simp only [Act.put, List.setIfInBounds_toArray, List.set_cons_zero, List.set_cons_succ])
              go_cut [75] (fun v75 wc => ∃ (kq : Nat) (x75_26 : Bool), v75 = .bool x75_26 ∧ Aside0 (head_Parse.j0 kq t218 t220 0 1 (⟨#[]⟩ : ByteArray) t225 x75_26 (⟨#[]⟩ : ByteArray) t231 t232 t233 = some (r1, r2, r3, r4, r5, r6, r7)) ∧ Aside0 (kq ≤ k) ∧ Aside0 (Kd.R Kd.string 9 wc w.heap.size (fun _ => True) (.slice (some ad224) t220.length co37) t220) ∧ Aside0 (wc.heap[gb213]? = some (.cells #[.string (⟨#[]⟩ : ByteArray), .string (⟨#[]⟩ : ByteArray), .string (⟨#[]⟩ : ByteArray), .string (⟨#[]⟩ : ByteArray), (.slice none 0 0)] 25 (0, 0))) ∧ Aside0 (wc.heap[gb223]? = some (.cells #[.string (⟨#[]⟩ : ByteArray), .string t231, .string t232, .string t233, (.slice none 0 0)] 25 (0, 0))) ∧ Aside0 (Below w.heap.size w wc))
              case first =>
                have H := HC27.out
                clear HC27
                by_cases c41 : t234 = true
                · subst c41
                  have H1 : ((head_token.f k t225).bind fun t235 => (if t235 = true then (head_Parse.j0 k t218 t220 0 1 (⟨#[]⟩ : ByteArray) t225 (t229.toList != ([72, 84, 84, 80, 47, 49, 46, 49] : List UInt8)) (⟨#[]⟩ : ByteArray) t231 t232 t233) else (head_Parse.j0 k t218 t220 0 1 (⟨#[]⟩ : ByteArray) t225 true (⟨#[]⟩ : ByteArray) t231 t232 t233))) = some (r1, r2, r3, r4, r5, r6, r7) := by rw [if_pos rfl] at H; exact H
                  clear H
                  have H := H1
                  clear H1
                  replace H := Option.bind_eq_some_iff.mp H
                  obtain ⟨t235, A420, H⟩ := H
                  replace H : (if t235 = true then (head_Parse.j0 k t218 t220 0 1 (⟨#[]⟩ : ByteArray) t225 (t229.toList != ([72, 84, 84, 80, 47, 49, 46, 49] : List UInt8)) (⟨#[]⟩ : ByteArray) t231 t232 t233) else (head_Parse.j0 k t218 t220 0 1 (⟨#[]⟩ : ByteArray) t225 true (⟨#[]⟩ : ByteArray) t231 t232 t233)) = some (r1, r2, r3, r4, r5, r6, r7) := H
                  have A42 := Aside0.mk A420
                  clear A420
                  by_cases c43 : t235 = true
                  · subst c43
                    have H1 : (head_Parse.j0 k t218 t220 0 1 (⟨#[]⟩ : ByteArray) t225 (t229.toList != ([72, 84, 84, 80, 47, 49, 46, 49] : List UInt8)) (⟨#[]⟩ : ByteArray) t231 t232 t233) = some (r1, r2, r3, r4, r5, r6, r7) := by rw [if_pos rfl] at H; exact H
                    clear H
                    have H := H1
                    clear H1
                    have H' := Aside0.mk H
                    clear H
                    go_wp2_with (first | (go_at_call 38; (with_reducible refine (head_token.calls k t225 true _ A42.out).mono ?_); rintro e w' ⟨rfl, ⟨nd, rfl⟩⟩))
                    go_meet
                    case rel => exact ⟨_, ((t229.toList != ([72, 84, 84, 80, 47, 49, 46, 49] : List UInt8))), (by first | rfl | (simp; done) | (simp [*]; done)), H', ⟨by first | omega | exact Nat.le_refl _⟩, ⟨by (with_reducible repeat (first | apply Kd.R_alloc | apply Kd.R_drewN | apply Kd.R_drew)); exact Kd.R_mono (Kd.R_far (p := ⟨gb223, 3, none⟩) (Kd.R_far (p := ⟨gb223, 2, none⟩) (Kd.R_far (p := ⟨gb223, 1, none⟩) (Kd.R_types HO222.out BK223.out (by decide)) (fun _ hk => hk.2) (.string t231)) (fun _ hk => hk.2) (.string t232)) (fun _ hk => hk.2) (.string t233)) (fun _ hk => trivial)⟩, ⟨by (with_reducible repeat (first | refine blk_drewN ?_ _ | refine blk_drew ?_ | refine blk_alloc ?_ _)); refine blk_far ?_ NB213_223.out _; (with_reducible repeat (first | refine blk_drewN ?_ _ | refine blk_drew ?_ | refine blk_alloc ?_ _)); refine blk_far ?_ NB213_223.out _; (with_reducible repeat (first | refine blk_drewN ?_ _ | refine blk_drew ?_ | refine blk_alloc ?_ _)); refine blk_far ?_ NB213_223.out _; (with_reducible repeat (first | refine blk_drewN ?_ _ | refine blk_drew ?_ | refine blk_alloc ?_ _)); exact BK213.out⟩, ⟨by (with_reducible repeat (first | refine blk_drewN ?_ _ | refine blk_drew ?_ | refine blk_alloc ?_ _)); refine blk_put (cs := #[.string (⟨#[]⟩ : ByteArray), .string t231, .string t232, .string (⟨#[]⟩ : ByteArray), .slice none 0 0]) ?_ 3 _ rfl; (with_reducible repeat (first | refine blk_drewN ?_ _ | refine blk_drew ?_ | refine blk_alloc ?_ _)); refine blk_put (cs := #[.string (⟨#[]⟩ : ByteArray), .string t231, .string (⟨#[]⟩ : ByteArray), .string (⟨#[]⟩ : ByteArray), .slice none 0 0]) ?_ 2 _ rfl; (with_reducible repeat (first | refine blk_drewN ?_ _ | refine blk_drew ?_ | refine blk_alloc ?_ _)); refine blk_put (cs := #[.string (⟨#[]⟩ : ByteArray), .string (⟨#[]⟩ : ByteArray), .string (⟨#[]⟩ : ByteArray), .string (⟨#[]⟩ : ByteArray), .slice none 0 0]) ?_ 1 _ rfl; (with_reducible repeat (first | refine blk_drewN ?_ _ | refine blk_drew ?_ | refine blk_alloc ?_ _)); exact BK223.out⟩, ⟨by repeat (first | (with_reducible first | exact HB.out | apply below_alloc | apply pw_below_drewN | apply below_drew1 | refine below_set ?_ GE213.out | refine below_set ?_ GE223.out) | exact HB.out)⟩⟩
                  · replace c43 := Bool.eq_false_iff.mpr c43
                    subst c43
                    have H1 : (head_Parse.j0 k t218 t220 0 1 (⟨#[]⟩ : ByteArray) t225 true (⟨#[]⟩ : ByteArray) t231 t232 t233) = some (r1, r2, r3, r4, r5, r6, r7) := by rw [if_neg (show ¬ (false = true) by decide)] at H; exact H
                    clear H
                    have H := H1
                    clear H1
                    have H' := Aside0.mk H
                    clear H
                    go_wp2_with (first | (go_at_call 38; (with_reducible refine (head_token.calls k t225 false _ A42.out).mono ?_); rintro e w' ⟨rfl, ⟨nd, rfl⟩⟩))
                    go_meet
                    case rel => exact ⟨_, (true), (by first | rfl | (simp; done) | (simp [*]; done)), H', ⟨by first | omega | exact Nat.le_refl _⟩, ⟨by (with_reducible repeat (first | apply Kd.R_alloc | apply Kd.R_drewN | apply Kd.R_drew)); exact Kd.R_mono (Kd.R_far (p := ⟨gb223, 3, none⟩) (Kd.R_far (p := ⟨gb223, 2, none⟩) (Kd.R_far (p := ⟨gb223, 1, none⟩) (Kd.R_types HO222.out BK223.out (by decide)) (fun _ hk => hk.2) (.string t231)) (fun _ hk => hk.2) (.string t232)) (fun _ hk => hk.2) (.string t233)) (fun _ hk => trivial)⟩, ⟨by (with_reducible repeat (first | refine blk_drewN ?_ _ | refine blk_drew ?_ | refine blk_alloc ?_ _)); refine blk_far ?_ NB213_223.out _; (with_reducible repeat (first | refine blk_drewN ?_ _ | refine blk_drew ?_ | refine blk_alloc ?_ _)); refine blk_far ?_ NB213_223.out _; (with_reducible repeat (first | refine blk_drewN ?_ _ | refine blk_drew ?_ | refine blk_alloc ?_ _)); refine blk_far ?_ NB213_223.out _; (with_reducible repeat (first | refine blk_drewN ?_ _ | refine blk_drew ?_ | refine blk_alloc ?_ _)); exact BK213.out⟩, ⟨by (with_reducible repeat (first | refine blk_drewN ?_ _ | refine blk_drew ?_ | refine blk_alloc ?_ _)); refine blk_put (cs := #[.string (⟨#[]⟩ : ByteArray), .string t231, .string t232, .string (⟨#[]⟩ : ByteArray), .slice none 0 0]) ?_ 3 _ rfl; (with_reducible repeat (first | refine blk_drewN ?_ _ | refine blk_drew ?_ | refine blk_alloc ?_ _)); refine blk_put (cs := #[.string (⟨#[]⟩ : ByteArray), .string t231, .string (⟨#[]⟩ : ByteArray), .string (⟨#[]⟩ : ByteArray), .slice none 0 0]) ?_ 2 _ rfl; (with_reducible repeat (first | refine blk_drewN ?_ _ | refine blk_drew ?_ | refine blk_alloc ?_ _)); refine blk_put (cs := #[.string (⟨#[]⟩ : ByteArray), .string (⟨#[]⟩ : ByteArray), .string (⟨#[]⟩ : ByteArray), .string (⟨#[]⟩ : ByteArray), .slice none 0 0]) ?_ 1 _ rfl; (with_reducible repeat (first | refine blk_drewN ?_ _ | refine blk_drew ?_ | refine blk_alloc ?_ _)); exact BK223.out⟩, ⟨by repeat (first | (with_reducible first | exact HB.out | apply below_alloc | apply pw_below_drewN | apply below_drew1 | refine below_set ?_ GE213.out | refine below_set ?_ GE223.out) | exact HB.out)⟩⟩
                · replace c41 := Bool.eq_false_iff.mpr c41
                  subst c41
                  have H1 : (head_Parse.j0 k t218 t220 0 1 (⟨#[]⟩ : ByteArray) t225 true (⟨#[]⟩ : ByteArray) t231 t232 t233) = some (r1, r2, r3, r4, r5, r6, r7) := by rw [if_neg (show ¬ (false = true) by decide)] at H; exact H
                  clear H
                  have H := H1
                  clear H1
                  have H' := Aside0.mk H
                  clear H
                  go_wp2
                  go_meet
                  case rel => exact ⟨_, (true), (by first | rfl | (simp; done) | (simp [*]; done)), H', ⟨by first | omega | exact Nat.le_refl _⟩, ⟨by (with_reducible repeat (first | apply Kd.R_alloc | apply Kd.R_drewN | apply Kd.R_drew)); exact Kd.R_mono (Kd.R_far (p := ⟨gb223, 3, none⟩) (Kd.R_far (p := ⟨gb223, 2, none⟩) (Kd.R_far (p := ⟨gb223, 1, none⟩) (Kd.R_types HO222.out BK223.out (by decide)) (fun _ hk => hk.2) (.string t231)) (fun _ hk => hk.2) (.string t232)) (fun _ hk => hk.2) (.string t233)) (fun _ hk => trivial)⟩, ⟨by (with_reducible repeat (first | refine blk_drewN ?_ _ | refine blk_drew ?_ | refine blk_alloc ?_ _)); refine blk_far ?_ NB213_223.out _; (with_reducible repeat (first | refine blk_drewN ?_ _ | refine blk_drew ?_ | refine blk_alloc ?_ _)); refine blk_far ?_ NB213_223.out _; (with_reducible repeat (first | refine blk_drewN ?_ _ | refine blk_drew ?_ | refine blk_alloc ?_ _)); refine blk_far ?_ NB213_223.out _; (with_reducible repeat (first | refine blk_drewN ?_ _ | refine blk_drew ?_ | refine blk_alloc ?_ _)); exact BK213.out⟩, ⟨by (with_reducible repeat (first | refine blk_drewN ?_ _ | refine blk_drew ?_ | refine blk_alloc ?_ _)); refine blk_put (cs := #[.string (⟨#[]⟩ : ByteArray), .string t231, .string t232, .string (⟨#[]⟩ : ByteArray), .slice none 0 0]) ?_ 3 _ rfl; (with_reducible repeat (first | refine blk_drewN ?_ _ | refine blk_drew ?_ | refine blk_alloc ?_ _)); refine blk_put (cs := #[.string (⟨#[]⟩ : ByteArray), .string t231, .string (⟨#[]⟩ : ByteArray), .string (⟨#[]⟩ : ByteArray), .slice none 0 0]) ?_ 2 _ rfl; (with_reducible repeat (first | refine blk_drewN ?_ _ | refine blk_drew ?_ | refine blk_alloc ?_ _)); refine blk_put (cs := #[.string (⟨#[]⟩ : ByteArray), .string (⟨#[]⟩ : ByteArray), .string (⟨#[]⟩ : ByteArray), .string (⟨#[]⟩ : ByteArray), .slice none 0 0]) ?_ 1 _ rfl; (with_reducible repeat (first | refine blk_drewN ?_ _ | refine blk_drew ?_ | refine blk_alloc ?_ _)); exact BK223.out⟩, ⟨by repeat (first | (with_reducible first | exact HB.out | apply below_alloc | apply pw_below_drewN | apply below_drew1 | refine below_set ?_ GE213.out | refine below_set ?_ GE223.out) | exact HB.out)⟩⟩
              case rest =>
                clear HC27
                try clear c1
                try clear c2
                try clear p2
                try clear q2
                try clear hx2
                try clear qi2
                try clear c3
                try clear c3b0
                try clear c3b1
                try clear hcv3
                try clear c4
                try clear c4b0
                try clear c4b1
                try clear c6
                try clear c6b0
                try clear c7
                try clear c7b0
                try clear c7b1
                try clear c14
                try clear c20
                try clear c20b0
                try clear c20b1
                try clear c21
                try clear c21b0
                try clear c21b1
                try clear p22
                try clear q22
                try clear hx22
                try clear qi22
                try clear c23
                try clear c23b0
                try clear c23b1
                try clear c34
                try clear hcv34
                try clear c35
                try clear c36
                try clear c37
                try clear c39
                try clear c41
                try clear c43
                try clear hcz13_0
                try clear hcz13_1
                try clear hcz13_2
                try clear hcz13_3
                try clear hcz13_4
                try clear hcz19_0
                try clear hcz19_1
                try clear hcz19_2
                try clear hcz19_3
                try clear hcz19_4
                try clear hcz40_0
                try clear hcz40_1
                try clear hcz40_2
                try clear hcz40_3
                try clear hcz40_4
                try clear hfz13_0
                try clear hfz13_1
                try clear hfz13_2
                try clear hfz13_3
                try clear hfz13_4
                try clear hfz19_0
                try clear hfz19_1
                try clear hfz19_2
                try clear hfz19_3
                try clear hfz19_4
                try clear hfz40_0
                try clear hfz40_1
                try clear hfz40_2
                try clear hfz40_3
                try clear hfz40_4
                try clear hx224_0
                try clear p224
                try clear q224
                obtain ⟨kq, x75_26, rfl, HA, HJ26, HO_6, BK213, BK223, HB⟩ := hcut
                cases kq with
                | zero => exact absurd HA.out (by simp [head_Parse.j0])
                | succ kj26 =>
                  have H := HA.out
                  clear HA
                  simp only [head_Parse.j0] at H
                  by_cases c44 : x75_26 = true
                  · subst c44
                    have H1 : (some ((⟨#[]⟩ : ByteArray), (⟨#[]⟩ : ByteArray), (⟨#[]⟩ : ByteArray), (⟨#[]⟩ : ByteArray), ([] : List (S38)), 0, 4)) = some (r1, r2, r3, r4, r5, r6, r7) := by rw [if_pos rfl] at H; exact H
                    clear H
                    have H := H1
                    clear H1
                    simp only [Option.some.injEq, Prod.mk.injEq] at H
                    obtain ⟨rfl, rfl, rfl, rfl, rfl, rfl, rfl⟩ := H
                    have hnb45 := NB213_223.out
                    have hnc45 := NB223_213.out
                    have hcz46_0 : wc.cell? ⟨gb213, 0, none⟩ = some (.string (⟨#[]⟩ : ByteArray)) := (blk_cell BK213.out 0).trans rfl
                    have hcz46_1 : wc.cell? ⟨gb213, 1, none⟩ = some (.string (⟨#[]⟩ : ByteArray)) := (blk_cell BK213.out 1).trans rfl
                    have hcz46_2 : wc.cell? ⟨gb213, 2, none⟩ = some (.string (⟨#[]⟩ : ByteArray)) := (blk_cell BK213.out 2).trans rfl
                    have hcz46_3 : wc.cell? ⟨gb213, 3, none⟩ = some (.string (⟨#[]⟩ : ByteArray)) := (blk_cell BK213.out 3).trans rfl
                    have hcz46_4 : wc.cell? ⟨gb213, 4, none⟩ = some (.slice none 0 0) := (blk_cell BK213.out 4).trans rfl
                    have hfz46_0 := blk_frozen BK213.out 0
                    have hfz46_1 := blk_frozen BK213.out 1
                    have hfz46_2 := blk_frozen BK213.out 2
                    have hfz46_3 := blk_frozen BK213.out 3
                    have hfz46_4 := blk_frozen BK213.out 4
                    go_wp2
                    (try ((with_reducible refine wp_goto ?_); refine Or.inl ⟨rfl, ?_⟩; refine hK0.out _ _ ?_; go_wp2))
                    (try simp only [Exit.two_ret, Exit.noGoto_ret])
                    refine bodyPost_ret (results_ctt rfl _ _ gb213 25 #[.string (⟨#[]⟩ : ByteArray), .string (⟨#[]⟩ : ByteArray), .string (⟨#[]⟩ : ByteArray), .string (⟨#[]⟩ : ByteArray), .slice none 0 0] (0, 0) _ rfl (by (with_reducible repeat (first | refine blk_drewN ?_ _ | refine blk_drew ?_ | refine blk_alloc ?_ _)); refine blk_put (cs := #[.string (⟨#[]⟩ : ByteArray), .string (⟨#[]⟩ : ByteArray), .string (⟨#[]⟩ : ByteArray), .string (⟨#[]⟩ : ByteArray), .slice none 0 0]) ?_ 4 _ rfl; (with_reducible repeat (first | refine blk_drewN ?_ _ | refine blk_drew ?_ | refine blk_alloc ?_ _)); refine blk_put (cs := #[.string (⟨#[]⟩ : ByteArray), .string (⟨#[]⟩ : ByteArray), .string (⟨#[]⟩ : ByteArray), .string (⟨#[]⟩ : ByteArray), .slice none 0 0]) ?_ 3 _ rfl; (with_reducible repeat (first | refine blk_drewN ?_ _ | refine blk_drew ?_ | refine blk_alloc ?_ _)); refine blk_put (cs := #[.string (⟨#[]⟩ : ByteArray), .string (⟨#[]⟩ : ByteArray), .string (⟨#[]⟩ : ByteArray), .string (⟨#[]⟩ : ByteArray), .slice none 0 0]) ?_ 2 _ rfl; (with_reducible repeat (first | refine blk_drewN ?_ _ | refine blk_drew ?_ | refine blk_alloc ?_ _)); refine blk_put (cs := #[.string (⟨#[]⟩ : ByteArray), .string (⟨#[]⟩ : ByteArray), .string (⟨#[]⟩ : ByteArray), .string (⟨#[]⟩ : ByteArray), .slice none 0 0]) ?_ 1 _ rfl; (with_reducible repeat (first | refine blk_drewN ?_ _ | refine blk_drew ?_ | refine blk_alloc ?_ _)); refine blk_put (cs := #[.string (⟨#[]⟩ : ByteArray), .string (⟨#[]⟩ : ByteArray), .string (⟨#[]⟩ : ByteArray), .string (⟨#[]⟩ : ByteArray), .slice none 0 0]) ?_ 0 _ rfl; (with_reducible repeat (first | refine blk_drewN ?_ _ | refine blk_drew ?_ | refine blk_alloc ?_ _)); exact BK213.out) Tryd.underlying25 rfl (by kernel_rfl)) rfl ?_
                    exact ⟨_, by first | rfl | (simp [errW_none, errW_some] <;> rfl) | (simp only [← hji2]; first | rfl | (simp [errW_none, errW_some] <;> rfl)) | (simp [*, errW_none, errW_some] <;> rfl), by first | exact Kd.R_nil _ _ _ _ _ | exact Kd.N_nil _ _ _ _ _ | exact Kd.V_nil _ _ _ _ _ | exact Kd.Q_nil _ _ _ _ _ | exact Kd.S_nil _ _ _ _ _, by repeat (first | (with_reducible first | exact HB.out | apply below_alloc | apply pw_below_drewN | apply below_drew1 | refine below_set ?_ GE213.out | refine below_set ?_ GE223.out) | exact HB.out)⟩
                  · replace c44 := Bool.eq_false_iff.mpr c44
                    subst c44
                    have H1 : (head_Parse.l0 kj26 t218 t220 0 1 (⟨#[]⟩ : ByteArray) t225 t231 t232 t233 ([] : List (S38))) = some (r1, r2, r3, r4, r5, r6, r7) := by rw [if_neg (show ¬ (false = true) by decide)] at H; exact H
                    clear H
                    have H := H1
                    clear H1
                    have H' := Aside0.mk H
                    clear H
                    have hnb47 := NB223_213.out
                    have hnc47 := NB213_223.out
                    have hcz48_0 : wc.cell? ⟨gb223, 0, none⟩ = some (.string (⟨#[]⟩ : ByteArray)) := (blk_cell BK223.out 0).trans rfl
                    have hcz48_1 : wc.cell? ⟨gb223, 1, none⟩ = some (.string t231) := (blk_cell BK223.out 1).trans rfl
                    have hcz48_2 : wc.cell? ⟨gb223, 2, none⟩ = some (.string t232) := (blk_cell BK223.out 2).trans rfl
                    have hcz48_3 : wc.cell? ⟨gb223, 3, none⟩ = some (.string t233) := (blk_cell BK223.out 3).trans rfl
                    have hcz48_4 : wc.cell? ⟨gb223, 4, none⟩ = some (.slice none 0 0) := (blk_cell BK223.out 4).trans rfl
                    have hfz48_0 := blk_frozen BK223.out 0
                    have hfz48_1 := blk_frozen BK223.out 1
                    have hfz48_2 := blk_frozen BK223.out 2
                    have hfz48_3 := blk_frozen BK223.out 3
                    have hfz48_4 := blk_frozen BK223.out 4
                    go_wp2
                    go_step3
                    go_step
                    go_step
                    refine Scope.LW.enter hK1.out ?_
                    refine head_Parse.loop1 kj26 (fun kq v9 v10 v11 w' => ∃ (x9_2 : Int) (x10_2 : Int) (x11_2 : ByteArray) (x214000_2 : ByteArray) (x214001_2 : ByteArray) (x214002_2 : ByteArray) (x214003_2 : ByteArray) (x224004_2 : List (S38)) (u224004 : Value), v9 = .int .i64 x9_2 ∧ v10 = .int .i64 x10_2 ∧ v11 = .string x11_2 ∧ Aside0 (head_Parse.l0 kq t218 t220 x9_2 x10_2 x11_2 t225 t231 t232 t233 x224004_2 = some (r1, r2, r3, r4, r5, r6, r7)) ∧ Aside0 (kq ≤ kj26) ∧ Aside0 (Kd.R Kd.string 9 w' w.heap.size (fun _ => True) (.slice (some ad224) t220.length co37) t220) ∧ Aside0 (Kd.R k38 38 w' w.heap.size (fun _ => True) u224004 x224004_2) ∧ Aside0 (w'.heap[gb213]? = some (.cells #[.string x214000_2, .string x214001_2, .string x214002_2, .string x214003_2, (.slice none 0 0)] 25 (0, 0))) ∧ Aside0 (w'.heap[gb223]? = some (.cells #[.string t225, .string t231, .string t232, .string t233, u224004] 25 (0, 0))) ∧ Aside0 (Below w.heap.size w w')) ?atStart ?round
                    case atStart => exact ⟨(0), (1), ((⟨#[]⟩ : ByteArray)), ((⟨#[]⟩ : ByteArray)), ((⟨#[]⟩ : ByteArray)), ((⟨#[]⟩ : ByteArray)), ((⟨#[]⟩ : ByteArray)), (([] : List (S38))), (.slice none 0 0), (by first | rfl | (simp; done) | (simp [*]; done)), (by first | rfl | (simp; done) | (simp [*]; done)), (by first | rfl | (simp; done) | (simp [*]; done)), H', ⟨Nat.le_refl _⟩, ⟨by (with_reducible repeat (first | apply Kd.R_alloc | apply Kd.R_drewN | apply Kd.R_drew)); exact Kd.R_mono (Kd.R_far (p := ⟨gb223, 0, none⟩) (Kd.R_types HO_6.out BK223.out (by decide)) (fun _ hk => hk.2) (.string t225)) (fun _ hk => trivial)⟩, ⟨by first | exact Kd.R_nil _ _ _ _ _ | exact Kd.N_nil _ _ _ _ _ | exact Kd.V_nil _ _ _ _ _ | exact Kd.Q_nil _ _ _ _ _ | exact Kd.S_nil _ _ _ _ _⟩, ⟨by (with_reducible repeat (first | refine blk_drewN ?_ _ | refine blk_drew ?_ | refine blk_alloc ?_ _)); refine blk_far ?_ NB213_223.out _; (with_reducible repeat (first | refine blk_drewN ?_ _ | refine blk_drew ?_ | refine blk_alloc ?_ _)); exact BK213.out⟩, ⟨by (with_reducible repeat (first | refine blk_drewN ?_ _ | refine blk_drew ?_ | refine blk_alloc ?_ _)); refine blk_put (cs := #[.string (⟨#[]⟩ : ByteArray), .string t231, .string t232, .string t233, .slice none 0 0]) ?_ 0 _ rfl; (with_reducible repeat (first | refine blk_drewN ?_ _ | refine blk_drew ?_ | refine blk_alloc ?_ _)); exact BK223.out⟩, ⟨by repeat (first | (with_reducible first | exact HB.out | apply below_alloc | apply pw_below_drewN | apply below_drew1 | refine below_set ?_ GE213.out | refine below_set ?_ GE223.out) | exact HB.out)⟩⟩
                    case round =>
                      intro gk wr u9 u10 u11 u18 u19 u20 u78 u79 u80 u81 u82 u83 u84 u85 u86 u87 u88 u89 u90 u91 u92 u93 u94 u95 u96 u97 u98 u99 u100 u101 u102 u103 u104 u105 u106 u107 u108 u109 u110 u111 u112 u113 u114 u115 u116 u117 u118 u119 u120 u121 u122 u123 u124 u125 u126 u127 hrel _ _ _ _
                      clear H'
                      try clear c1
                      try clear c2
                      try clear p2
                      try clear q2
                      try clear hx2
                      try clear qi2
                      try clear c3
                      try clear c3b0
                      try clear c3b1
                      try clear hcv3
                      try clear c4
                      try clear c4b0
                      try clear c4b1
                      try clear c6
                      try clear c6b0
                      try clear c7
                      try clear c7b0
                      try clear c7b1
                      try clear c14
                      try clear c20
                      try clear c20b0
                      try clear c20b1
                      try clear c21
                      try clear c21b0
                      try clear c21b1
                      try clear p22
                      try clear q22
                      try clear hx22
                      try clear qi22
                      try clear c23
                      try clear c23b0
                      try clear c23b1
                      try clear c34
                      try clear hcv34
                      try clear c35
                      try clear c36
                      try clear c37
                      try clear c39
                      try clear c41
                      try clear c43
                      try clear c44
                      try clear c45
                      try clear c47
                      try clear hcz13_0
                      try clear hcz13_1
                      try clear hcz13_2
                      try clear hcz13_3
                      try clear hcz13_4
                      try clear hcz19_0
                      try clear hcz19_1
                      try clear hcz19_2
                      try clear hcz19_3
                      try clear hcz19_4
                      try clear hcz40_0
                      try clear hcz40_1
                      try clear hcz40_2
                      try clear hcz40_3
                      try clear hcz40_4
                      try clear hcz46_0
                      try clear hcz46_1
                      try clear hcz46_2
                      try clear hcz46_3
                      try clear hcz46_4
                      try clear hcz48_0
                      try clear hcz48_1
                      try clear hcz48_2
                      try clear hcz48_3
                      try clear hcz48_4
                      try clear hfz13_0
                      try clear hfz13_1
                      try clear hfz13_2
                      try clear hfz13_3
                      try clear hfz13_4
                      try clear hfz19_0
                      try clear hfz19_1
                      try clear hfz19_2
                      try clear hfz19_3
                      try clear hfz19_4
                      try clear hfz40_0
                      try clear hfz40_1
                      try clear hfz40_2
                      try clear hfz40_3
                      try clear hfz40_4
                      try clear hfz46_0
                      try clear hfz46_1
                      try clear hfz46_2
                      try clear hfz46_3
                      try clear hfz46_4
                      try clear hfz48_0
                      try clear hfz48_1
                      try clear hfz48_2
                      try clear hfz48_3
                      try clear hfz48_4
                      try clear hx224_0
                      try clear p2
                      try clear p22
                      try clear p224
                      try clear q2
                      try clear q22
                      try clear q224
                      obtain ⟨x9_2, x10_2, x11_2, x214000_2, x214001_2, x214002_2, x214003_2, x224004_2, u224004, rfl, rfl, rfl, HA, HK2, HO_6, HO_224004, BK213, BK223, HB⟩ := hrel
                      cases gk with
                      | zero => exact absurd HA.out (by simp [head_Parse.l0])
                      | succ k2 =>
                        have H := HA.out
                        clear HA
                        simp only [head_Parse.l0] at H
                        by_cases c49 : x10_2 < (t220.length : Int)
                        · rw [if_pos c49] at H
                          have c49b0 : decide (x10_2 < (t220.length : Int)) = true := decide_eq_true c49
                          clear c49
                          by_cases c50 : 0 ≤ x10_2
                          · rw [if_pos c50] at H
                            have c50b0 : decide (0 ≤ x10_2) = true := decide_eq_true c50
                            clear c50
                            replace H := Option.bind_eq_some_iff.mp H
                            obtain ⟨⟨t237, t238, t239⟩, A510, H⟩ := H
                            replace H : ((strings_Trim.f t238 (⟨#[9, 32]⟩ : ByteArray)).bind fun t240 => (if t239 = true then ((head_token.f k2 t237).bind fun t241 => (if t241 = true then ((head_value.f k2 t240).bind fun t242 => (head_Parse.j2 k2 t218 t220 x9_2 x10_2 x11_2 t237 t240 (!t242) t225 t231 t232 t233 x224004_2)) else (head_Parse.j2 k2 t218 t220 x9_2 x10_2 x11_2 t237 t240 true t225 t231 t232 t233 x224004_2))) else (head_Parse.j2 k2 t218 t220 x9_2 x10_2 x11_2 t237 t240 true t225 t231 t232 t233 x224004_2))) = some (r1, r2, r3, r4, r5, r6, r7) := H
                            have A51 := Aside0.mk A510
                            clear A510
                            replace H := Option.bind_eq_some_iff.mp H
                            obtain ⟨t240, A520, H⟩ := H
                            replace H : (if t239 = true then ((head_token.f k2 t237).bind fun t241 => (if t241 = true then ((head_value.f k2 t240).bind fun t242 => (head_Parse.j2 k2 t218 t220 x9_2 x10_2 x11_2 t237 t240 (!t242) t225 t231 t232 t233 x224004_2)) else (head_Parse.j2 k2 t218 t220 x9_2 x10_2 x11_2 t237 t240 true t225 t231 t232 t233 x224004_2))) else (head_Parse.j2 k2 t218 t220 x9_2 x10_2 x11_2 t237 t240 true t225 t231 t232 t233 x224004_2)) = some (r1, r2, r3, r4, r5, r6, r7) := H
                            have A52 := Aside0.mk A520
                            clear A520
                            have HC53 := Aside0.mk H
                            clear H
                            have p236 : 0 ≤ (x10_2 : Int) := of_decide_eq_true (by first | (with_reducible assumption) | assumption)
                            have q236 : x10_2 < (t220.length : Int) := of_decide_eq_true (by first | (with_reducible assumption) | assumption)
                            obtain ⟨ad236, e236, hx236_0⟩ := Kd.at_string (Kd.R_reads' HO_6.out).2.2 x10_2 p236 q236
                            obtain rfl : ad224 = ad236 := (by injection e236)
                            replace p236 := eq_true p236
                            replace q236 := eq_true q236
                            go_upto_region 18 with (first | ((with_reducible refine gate_callee (f := 36) rfl ?_); refine goesL_ (some 87) rfl rfl Tryd.func36 (by kernel_rfl) rfl #[.string (rdOf ByteArray.empty t220 x10_2), .string (⟨#[58]⟩ : ByteArray)] rfl (by (try simp only [List.map_toArray, List.map_cons, List.map_nil]); first | done | rfl | (simp only [List.length_drop, List.length_take]; rfl)) ?_; (with_reducible refine (strings_Cut.calls (rdOf ByteArray.empty t220 x10_2) (⟨#[58]⟩ : ByteArray) t237 t238 t239 _ ?side1 A51.out).mono ?_); (case side1 => exact ML.keep HML.out (by repeat (first | (with_reducible first | exact HB.out | apply below_alloc | apply pw_below_drewN | apply below_drew1 | refine below_set ?_ GE213.out | refine below_set ?_ GE223.out) | exact HB.out))); rintro e w' ⟨rfl, ⟨nd, rfl⟩⟩; refine ⟨_, rfl, ?_⟩) | ((with_reducible refine gate_callee (f := 39) rfl ?_); refine goesL_ (some 92) rfl rfl Tryd.func39 (by kernel_rfl) rfl #[.string t238, .string (⟨#[9, 32]⟩ : ByteArray)] rfl (by (try simp only [List.map_toArray, List.map_cons, List.map_nil]); first | done | rfl | (simp only [List.length_drop, List.length_take]; rfl)) ?_; (with_reducible refine (strings_Trim.calls t238 (⟨#[9, 32]⟩ : ByteArray) t240 _ A52.out).mono ?_); rintro e w54 ⟨rfl, hb⟩; refine ⟨_, rfl, ?_⟩; have n0_ := Aside0.mk (Kd.R_below (by (with_reducible repeat (first | apply Kd.R_alloc | apply Kd.R_drewN | apply Kd.R_drew)); exact HO_6.out) hb); have n1_ := Aside0.mk (Kd.R_below (by (with_reducible repeat (first | apply Kd.R_alloc | apply Kd.R_drewN | apply Kd.R_drew)); exact HO_224004.out) hb); have n2_ := Aside0.mk (blk_below (g := gb213) (o := .cells #[.string x214000_2, .string x214001_2, .string x214002_2, .string x214003_2, .slice none 0 0] 25 (0, 0)) (by (with_reducible repeat (first | refine blk_drewN ?_ _ | refine blk_drew ?_ | refine blk_alloc ?_ _)); exact BK213.out) hb); have n3_ := Aside0.mk (blk_below (g := gb223) (o := .cells #[.string t225, .string t231, .string t232, .string t233, u224004] 25 (0, 0)) (by (with_reducible repeat (first | refine blk_drewN ?_ _ | refine blk_drew ?_ | refine blk_alloc ?_ _)); exact BK223.out) hb); have n4_ := Aside0.mk (below_step (by repeat (first | (with_reducible first | exact HB.out | apply below_alloc | apply pw_below_drewN | apply below_drew1 | refine below_set ?_ GE213.out | refine below_set ?_ GE223.out) | exact HB.out)) hb); clear HO_6; clear HO_224004; clear BK213; clear BK223; clear HB; have HO_6 := n0_; have HO_224004 := n1_; have BK213 := n2_; have BK223 := n3_; have HB := n4_; clear n0_ n1_ n2_ n3_ n4_; (try clear hb); (try clear hb2); (try clear hk); (try clear hi)))
                            (try simp only [Act.put, List.setIfInBounds_toArray, List.set_cons_zero, List.set_cons_succ])
                            go_cut [104] from 78 to 127 (fun v104 wc => ∃ (kq : Nat) (x104_52 : Bool), v104 = .bool x104_52 ∧ Aside0 (head_Parse.j2 kq t218 t220 x9_2 x10_2 x11_2 t237 t240 x104_52 t225 t231 t232 t233 x224004_2 = some (r1, r2, r3, r4, r5, r6, r7)) ∧ Aside0 (kq ≤ k2) ∧ Aside0 (Kd.R Kd.string 9 wc w.heap.size (fun _ => True) (.slice (some ad224) t220.length co37) t220) ∧ Aside0 (Kd.R k38 38 wc w.heap.size (fun _ => True) u224004 x224004_2) ∧ Aside0 (wc.heap[gb213]? = some (.cells #[.string x214000_2, .string x214001_2, .string x214002_2, .string x214003_2, (.slice none 0 0)] 25 (0, 0))) ∧ Aside0 (wc.heap[gb223]? = some (.cells #[.string t225, .string t231, .string t232, .string t233, u224004] 25 (0, 0))) ∧ Aside0 (Below w.heap.size w wc))
                            case first =>
                              have H := HC53.out
                              clear HC53
                              by_cases c55 : t239 = true
                              · subst c55
                                have H1 : ((head_token.f k2 t237).bind fun t241 => (if t241 = true then ((head_value.f k2 t240).bind fun t242 => (head_Parse.j2 k2 t218 t220 x9_2 x10_2 x11_2 t237 t240 (!t242) t225 t231 t232 t233 x224004_2)) else (head_Parse.j2 k2 t218 t220 x9_2 x10_2 x11_2 t237 t240 true t225 t231 t232 t233 x224004_2))) = some (r1, r2, r3, r4, r5, r6, r7) := by rw [if_pos rfl] at H; exact H
                                clear H
                                have H := H1
                                clear H1
                                replace H := Option.bind_eq_some_iff.mp H
                                obtain ⟨t241, A560, H⟩ := H
                                replace H : (if t241 = true then ((head_value.f k2 t240).bind fun t242 => (head_Parse.j2 k2 t218 t220 x9_2 x10_2 x11_2 t237 t240 (!t242) t225 t231 t232 t233 x224004_2)) else (head_Parse.j2 k2 t218 t220 x9_2 x10_2 x11_2 t237 t240 true t225 t231 t232 t233 x224004_2)) = some (r1, r2, r3, r4, r5, r6, r7) := H
                                have A56 := Aside0.mk A560
                                clear A560
                                by_cases c57 : t241 = true
                                · subst c57
                                  have H1 : ((head_value.f k2 t240).bind fun t242 => (head_Parse.j2 k2 t218 t220 x9_2 x10_2 x11_2 t237 t240 (!t242) t225 t231 t232 t233 x224004_2)) = some (r1, r2, r3, r4, r5, r6, r7) := by rw [if_pos rfl] at H; exact H
                                  clear H
                                  have H := H1
                                  clear H1
                                  replace H := Option.bind_eq_some_iff.mp H
                                  obtain ⟨t242, A580, H⟩ := H
                                  replace H : (head_Parse.j2 k2 t218 t220 x9_2 x10_2 x11_2 t237 t240 (!t242) t225 t231 t232 t233 x224004_2) = some (r1, r2, r3, r4, r5, r6, r7) := H
                                  have A58 := Aside0.mk A580
                                  clear A580
                                  have H' := Aside0.mk H
                                  clear H
                                  go_wp2_with (first | (go_at_call 38; (with_reducible refine (head_token.calls k2 t237 true _ A56.out).mono ?_); rintro e w' ⟨rfl, ⟨nd, rfl⟩⟩) | (go_at_call 40; (with_reducible refine (head_value.calls k2 t240 t242 _ A58.out).mono ?_); rintro e w' ⟨rfl, ⟨nd, rfl⟩⟩))
                                  go_meet
                                  case rel => exact ⟨_, (!t242), (by first | rfl | (simp; done) | (simp [*]; done)), H', ⟨by have := HJ26.out; have := HK2.out; first | omega | exact Nat.le_refl _⟩, ⟨by (with_reducible repeat (first | apply Kd.R_alloc | apply Kd.R_drewN | apply Kd.R_drew)); exact HO_6.out⟩, ⟨by (with_reducible repeat (first | apply Kd.R_alloc | apply Kd.R_drewN | apply Kd.R_drew)); exact HO_224004.out⟩, ⟨by (with_reducible repeat (first | refine blk_drewN ?_ _ | refine blk_drew ?_ | refine blk_alloc ?_ _)); exact BK213.out⟩, ⟨by (with_reducible repeat (first | refine blk_drewN ?_ _ | refine blk_drew ?_ | refine blk_alloc ?_ _)); exact BK223.out⟩, ⟨by repeat (first | (with_reducible first | exact HB.out | apply below_alloc | apply pw_below_drewN | apply below_drew1 | refine below_set ?_ GE213.out | refine below_set ?_ GE223.out) | exact HB.out)⟩⟩
                                · replace c57 := Bool.eq_false_iff.mpr c57
                                  subst c57
                                  have H1 : (head_Parse.j2 k2 t218 t220 x9_2 x10_2 x11_2 t237 t240 true t225 t231 t232 t233 x224004_2) = some (r1, r2, r3, r4, r5, r6, r7) := by rw [if_neg (show ¬ (false = true) by decide)] at H; exact H
                                  clear H
                                  have H := H1
                                  clear H1
                                  have H' := Aside0.mk H
                                  clear H
                                  go_wp2_with (first | (go_at_call 38; (with_reducible refine (head_token.calls k2 t237 false _ A56.out).mono ?_); rintro e w' ⟨rfl, ⟨nd, rfl⟩⟩))
                                  go_meet
                                  case rel => exact ⟨_, (true), (by first | rfl | (simp; done) | (simp [*]; done)), H', ⟨by have := HJ26.out; have := HK2.out; first | omega | exact Nat.le_refl _⟩, ⟨by (with_reducible repeat (first | apply Kd.R_alloc | apply Kd.R_drewN | apply Kd.R_drew)); exact HO_6.out⟩, ⟨by (with_reducible repeat (first | apply Kd.R_alloc | apply Kd.R_drewN | apply Kd.R_drew)); exact HO_224004.out⟩, ⟨by (with_reducible repeat (first | refine blk_drewN ?_ _ | refine blk_drew ?_ | refine blk_alloc ?_ _)); exact BK213.out⟩, ⟨by (with_reducible repeat (first | refine blk_drewN ?_ _ | refine blk_drew ?_ | refine blk_alloc ?_ _)); exact BK223.out⟩, ⟨by repeat (first | (with_reducible first | exact HB.out | apply below_alloc | apply pw_below_drewN | apply below_drew1 | refine below_set ?_ GE213.out | refine below_set ?_ GE223.out) | exact HB.out)⟩⟩
                              · replace c55 := Bool.eq_false_iff.mpr c55
                                subst c55
                                have H1 : (head_Parse.j2 k2 t218 t220 x9_2 x10_2 x11_2 t237 t240 true t225 t231 t232 t233 x224004_2) = some (r1, r2, r3, r4, r5, r6, r7) := by rw [if_neg (show ¬ (false = true) by decide)] at H; exact H
                                clear H
                                have H := H1
                                clear H1
                                have H' := Aside0.mk H
                                clear H
                                go_wp2
                                go_meet
                                case rel => exact ⟨_, (true), (by first | rfl | (simp; done) | (simp [*]; done)), H', ⟨by have := HJ26.out; have := HK2.out; first | omega | exact Nat.le_refl _⟩, ⟨by (with_reducible repeat (first | apply Kd.R_alloc | apply Kd.R_drewN | apply Kd.R_drew)); exact HO_6.out⟩, ⟨by (with_reducible repeat (first | apply Kd.R_alloc | apply Kd.R_drewN | apply Kd.R_drew)); exact HO_224004.out⟩, ⟨by (with_reducible repeat (first | refine blk_drewN ?_ _ | refine blk_drew ?_ | refine blk_alloc ?_ _)); exact BK213.out⟩, ⟨by (with_reducible repeat (first | refine blk_drewN ?_ _ | refine blk_drew ?_ | refine blk_alloc ?_ _)); exact BK223.out⟩, ⟨by repeat (first | (with_reducible first | exact HB.out | apply below_alloc | apply pw_below_drewN | apply below_drew1 | refine below_set ?_ GE213.out | refine below_set ?_ GE223.out) | exact HB.out)⟩⟩
                            case rest =>
                              clear HC53
                              try clear c1
                              try clear c2
                              try clear p2
                              try clear q2
                              try clear hx2
                              try clear qi2
                              try clear c3
                              try clear c3b0
                              try clear c3b1
                              try clear hcv3
                              try clear c4
                              try clear c4b0
                              try clear c4b1
                              try clear c5
                              try clear c6
                              try clear c6b0
                              try clear c7
                              try clear c7b0
                              try clear c7b1
                              try clear c14
                              try clear c20
                              try clear c20b0
                              try clear c20b1
                              try clear c21
                              try clear c21b0
                              try clear c21b1
                              try clear p22
                              try clear q22
                              try clear hx22
                              try clear qi22
                              try clear c23
                              try clear c23b0
                              try clear c23b1
                              try clear p23
                              try clear q23
                              try clear hx23
                              try clear c34
                              try clear hcv34
                              try clear c35
                              try clear c36
                              try clear c37
                              try clear c39
                              try clear c41
                              try clear c43
                              try clear c44
                              try clear c45
                              try clear c47
                              try clear c49
                              try clear c49b0
                              try clear c50
                              try clear c50b0
                              try clear c55
                              try clear c57
                              try clear hcz13_0
                              try clear hcz13_1
                              try clear hcz13_2
                              try clear hcz13_3
                              try clear hcz13_4
                              try clear hcz19_0
                              try clear hcz19_1
                              try clear hcz19_2
                              try clear hcz19_3
                              try clear hcz19_4
                              try clear hcz40_0
                              try clear hcz40_1
                              try clear hcz40_2
                              try clear hcz40_3
                              try clear hcz40_4
                              try clear hcz46_0
                              try clear hcz46_1
                              try clear hcz46_2
                              try clear hcz46_3
                              try clear hcz46_4
                              try clear hcz48_0
                              try clear hcz48_1
                              try clear hcz48_2
                              try clear hcz48_3
                              try clear hcz48_4
                              try clear hfz13_0
                              try clear hfz13_1
                              try clear hfz13_2
                              try clear hfz13_3
                              try clear hfz13_4
                              try clear hfz19_0
                              try clear hfz19_1
                              try clear hfz19_2
                              try clear hfz19_3
                              try clear hfz19_4
                              try clear hfz40_0
                              try clear hfz40_1
                              try clear hfz40_2
                              try clear hfz40_3
                              try clear hfz40_4
                              try clear hfz46_0
                              try clear hfz46_1
                              try clear hfz46_2
                              try clear hfz46_3
                              try clear hfz46_4
                              try clear hfz48_0
                              try clear hfz48_1
                              try clear hfz48_2
                              try clear hfz48_3
                              try clear hfz48_4
                              try clear hx224_0
                              try clear hx236_0
                              try clear p2
                              try clear p22
                              try clear p224
                              try clear p236
                              try clear q2
                              try clear q22
                              try clear q224
                              try clear q236
                              obtain ⟨kq, x104_52, rfl, HA, HJ52, HO_6, HO_224004, BK213, BK223, HB⟩ := hcut
                              cases kq with
                              | zero => exact absurd HA.out (by simp [head_Parse.j2])
                              | succ kj52 =>
                                have H := HA.out
                                clear HA
                                simp only [head_Parse.j2] at H
                                by_cases c59 : x104_52 = true
                                · subst c59
                                  have H1 : (some ((⟨#[]⟩ : ByteArray), (⟨#[]⟩ : ByteArray), (⟨#[]⟩ : ByteArray), (⟨#[]⟩ : ByteArray), ([] : List (S38)), 0, 4)) = some (r1, r2, r3, r4, r5, r6, r7) := by rw [if_pos rfl] at H; exact H
                                  clear H
                                  have H := H1
                                  clear H1
                                  simp only [Option.some.injEq, Prod.mk.injEq] at H
                                  obtain ⟨rfl, rfl, rfl, rfl, rfl, rfl, rfl⟩ := H
                                  have hnb60 := NB213_223.out
                                  have hnc60 := NB223_213.out
                                  have hcz61_0 : wc.cell? ⟨gb213, 0, none⟩ = some (.string x214000_2) := (blk_cell BK213.out 0).trans rfl
                                  have hcz61_1 : wc.cell? ⟨gb213, 1, none⟩ = some (.string x214001_2) := (blk_cell BK213.out 1).trans rfl
                                  have hcz61_2 : wc.cell? ⟨gb213, 2, none⟩ = some (.string x214002_2) := (blk_cell BK213.out 2).trans rfl
                                  have hcz61_3 : wc.cell? ⟨gb213, 3, none⟩ = some (.string x214003_2) := (blk_cell BK213.out 3).trans rfl
                                  have hcz61_4 : wc.cell? ⟨gb213, 4, none⟩ = some (.slice none 0 0) := (blk_cell BK213.out 4).trans rfl
                                  have hfz61_0 := blk_frozen BK213.out 0
                                  have hfz61_1 := blk_frozen BK213.out 1
                                  have hfz61_2 := blk_frozen BK213.out 2
                                  have hfz61_3 := blk_frozen BK213.out 3
                                  have hfz61_4 := blk_frozen BK213.out 4
                                  go_wp2
                                  (try ((with_reducible refine wp_goto ?_); refine Or.inl ⟨rfl, ?_⟩; refine hK0.out _ _ ?_; go_wp2))
                                  (try simp only [Exit.two_ret, Exit.noGoto_ret])
                                  refine bodyPost_ret (results_ctt rfl _ _ gb213 25 #[.string (⟨#[]⟩ : ByteArray), .string (⟨#[]⟩ : ByteArray), .string (⟨#[]⟩ : ByteArray), .string (⟨#[]⟩ : ByteArray), .slice none 0 0] (0, 0) _ rfl (by (with_reducible repeat (first | refine blk_drewN ?_ _ | refine blk_drew ?_ | refine blk_alloc ?_ _)); refine blk_put (cs := #[.string (⟨#[]⟩ : ByteArray), .string (⟨#[]⟩ : ByteArray), .string (⟨#[]⟩ : ByteArray), .string (⟨#[]⟩ : ByteArray), .slice none 0 0]) ?_ 4 _ rfl; (with_reducible repeat (first | refine blk_drewN ?_ _ | refine blk_drew ?_ | refine blk_alloc ?_ _)); refine blk_put (cs := #[.string (⟨#[]⟩ : ByteArray), .string (⟨#[]⟩ : ByteArray), .string (⟨#[]⟩ : ByteArray), .string x214003_2, .slice none 0 0]) ?_ 3 _ rfl; (with_reducible repeat (first | refine blk_drewN ?_ _ | refine blk_drew ?_ | refine blk_alloc ?_ _)); refine blk_put (cs := #[.string (⟨#[]⟩ : ByteArray), .string (⟨#[]⟩ : ByteArray), .string x214002_2, .string x214003_2, .slice none 0 0]) ?_ 2 _ rfl; (with_reducible repeat (first | refine blk_drewN ?_ _ | refine blk_drew ?_ | refine blk_alloc ?_ _)); refine blk_put (cs := #[.string (⟨#[]⟩ : ByteArray), .string x214001_2, .string x214002_2, .string x214003_2, .slice none 0 0]) ?_ 1 _ rfl; (with_reducible repeat (first | refine blk_drewN ?_ _ | refine blk_drew ?_ | refine blk_alloc ?_ _)); refine blk_put (cs := #[.string x214000_2, .string x214001_2, .string x214002_2, .string x214003_2, .slice none 0 0]) ?_ 0 _ rfl; (with_reducible repeat (first | refine blk_drewN ?_ _ | refine blk_drew ?_ | refine blk_alloc ?_ _)); exact BK213.out) Tryd.underlying25 rfl (by kernel_rfl)) rfl ?_
                                  exact ⟨_, by first | rfl | (simp [errW_none, errW_some] <;> rfl) | (simp only [← hji2]; first | rfl | (simp [errW_none, errW_some] <;> rfl)) | (simp [*, errW_none, errW_some] <;> rfl), by first | exact Kd.R_nil _ _ _ _ _ | exact Kd.N_nil _ _ _ _ _ | exact Kd.V_nil _ _ _ _ _ | exact Kd.Q_nil _ _ _ _ _ | exact Kd.S_nil _ _ _ _ _, by repeat (first | (with_reducible first | exact HB.out | apply below_alloc | apply pw_below_drewN | apply below_drew1 | refine below_set ?_ GE213.out | refine below_set ?_ GE223.out) | exact HB.out)⟩
                                · replace c59 := Bool.eq_false_iff.mpr c59
                                  subst c59
                                  have H1 : ((head_lower.f t237).bind fun t243 => (if x224004_2.length < 4398046511104 then ((some (x224004_2 ++ [(⟨t243, t240⟩ : S38)] : List (S38))).bind fun y244 => ((head_lower.f t237).bind fun t247 => (if t247.toList = ([104, 111, 115, 116] : List UInt8) then ((head_Host.f kj52 t240).bind fun bt248 => (if bt248.2 = true then (head_Parse.l0 kj52 t218 t220 (wrap64 (x9_2 + 1)) (wrap64 (x10_2 + 1)) bt248.1 t225 t231 t232 t233 y244) else (some ((⟨#[]⟩ : ByteArray), (⟨#[]⟩ : ByteArray), (⟨#[]⟩ : ByteArray), (⟨#[]⟩ : ByteArray), ([] : List (S38)), 0, 4)))) else (head_Parse.l0 kj52 t218 t220 x9_2 (wrap64 (x10_2 + 1)) x11_2 t225 t231 t232 t233 y244)))) else (none))) = some (r1, r2, r3, r4, r5, r6, r7) := by rw [if_neg (show ¬ (false = true) by decide)] at H; exact H
                                  clear H
                                  have H := H1
                                  clear H1
                                  replace H := Option.bind_eq_some_iff.mp H
                                  obtain ⟨t243, A620, H⟩ := H
                                  replace H : (if x224004_2.length < 4398046511104 then ((some (x224004_2 ++ [(⟨t243, t240⟩ : S38)] : List (S38))).bind fun y244 => ((head_lower.f t237).bind fun t247 => (if t247.toList = ([104, 111, 115, 116] : List UInt8) then ((head_Host.f kj52 t240).bind fun bt248 => (if bt248.2 = true then (head_Parse.l0 kj52 t218 t220 (wrap64 (x9_2 + 1)) (wrap64 (x10_2 + 1)) bt248.1 t225 t231 t232 t233 y244) else (some ((⟨#[]⟩ : ByteArray), (⟨#[]⟩ : ByteArray), (⟨#[]⟩ : ByteArray), (⟨#[]⟩ : ByteArray), ([] : List (S38)), 0, 4)))) else (head_Parse.l0 kj52 t218 t220 x9_2 (wrap64 (x10_2 + 1)) x11_2 t225 t231 t232 t233 y244)))) else (none)) = some (r1, r2, r3, r4, r5, r6, r7) := H
                                  have A62 := Aside0.mk A620
                                  clear A620
                                  by_cases c63 : x224004_2.length < 4398046511104
                                  · rw [if_pos c63] at H
                                    have LMc63 := Aside0.mk c63
                                    clear c63
                                    obtain ⟨y244, hy244⟩ : ∃ y_ : List (S38), y_ = (x224004_2 ++ [(⟨t243, t240⟩ : S38)]) := ⟨_, rfl⟩
                                    replace H : ((head_lower.f t237).bind fun t247 => (if t247.toList = ([104, 111, 115, 116] : List UInt8) then ((head_Host.f kj52 t240).bind fun bt248 => (if bt248.2 = true then (head_Parse.l0 kj52 t218 t220 (wrap64 (x9_2 + 1)) (wrap64 (x10_2 + 1)) bt248.1 t225 t231 t232 t233 y244) else (some ((⟨#[]⟩ : ByteArray), (⟨#[]⟩ : ByteArray), (⟨#[]⟩ : ByteArray), (⟨#[]⟩ : ByteArray), ([] : List (S38)), 0, 4)))) else (head_Parse.l0 kj52 t218 t220 x9_2 (wrap64 (x10_2 + 1)) x11_2 t225 t231 t232 t233 y244))) = some (r1, r2, r3, r4, r5, r6, r7) := by first | (rw [hy244]; with_reducible exact H) | (have H2_ := (Option.bind_some _ _).symm.trans H; rw [hy244]; with_reducible exact H2_) | (have H2_ := (Option.bind_some _ _).symm.trans H; with_reducible exact H2_) | with_reducible exact H | (rw [hy244]; exact H) | exact H
                                    have Ny244 := Aside0.mk hy244
                                    clear hy244
                                    replace H := Option.bind_eq_some_iff.mp H
                                    obtain ⟨t247, A640, H⟩ := H
                                    replace H : (if t247.toList = ([104, 111, 115, 116] : List UInt8) then ((head_Host.f kj52 t240).bind fun bt248 => (if bt248.2 = true then (head_Parse.l0 kj52 t218 t220 (wrap64 (x9_2 + 1)) (wrap64 (x10_2 + 1)) bt248.1 t225 t231 t232 t233 y244) else (some ((⟨#[]⟩ : ByteArray), (⟨#[]⟩ : ByteArray), (⟨#[]⟩ : ByteArray), (⟨#[]⟩ : ByteArray), ([] : List (S38)), 0, 4)))) else (head_Parse.l0 kj52 t218 t220 x9_2 (wrap64 (x10_2 + 1)) x11_2 t225 t231 t232 t233 y244)) = some (r1, r2, r3, r4, r5, r6, r7) := H
                                    have A64 := Aside0.mk A640
                                    clear A640
                                    by_cases c65 : t247.toList = ([104, 111, 115, 116] : List UInt8)
                                    · rw [if_pos c65] at H
                                      have c65b0 : (t247.toList == ([104, 111, 115, 116] : List UInt8)) = true := beq_iff_eq.mpr c65
                                      have c65b1 : (t247.toList != ([104, 111, 115, 116] : List UInt8)) = false := bne_eq_false_iff_eq.mpr c65
                                      clear c65
                                      replace H := Option.bind_eq_some_iff.mp H
                                      obtain ⟨⟨t248, t249⟩, A660, H⟩ := H
                                      replace H : (if t249 = true then (head_Parse.l0 kj52 t218 t220 (wrap64 (x9_2 + 1)) (wrap64 (x10_2 + 1)) t248 t225 t231 t232 t233 y244) else (some ((⟨#[]⟩ : ByteArray), (⟨#[]⟩ : ByteArray), (⟨#[]⟩ : ByteArray), (⟨#[]⟩ : ByteArray), ([] : List (S38)), 0, 4))) = some (r1, r2, r3, r4, r5, r6, r7) := H
                                      have A66 := Aside0.mk A660
                                      clear A660
                                      by_cases c67 : t249 = true
                                      · subst c67
                                        have H1 : (head_Parse.l0 kj52 t218 t220 (wrap64 (x9_2 + 1)) (wrap64 (x10_2 + 1)) t248 t225 t231 t232 t233 y244) = some (r1, r2, r3, r4, r5, r6, r7) := by rw [if_pos rfl] at H; exact H
                                        clear H
                                        have H := H1
                                        clear H1
                                        have H' := Aside0.mk H
                                        clear H
                                        try go_wp2
                                        have n0_ := Aside0.mk (Kd.R_drew HO_6.out)
                                        have n1_ := Aside0.mk (Kd.R_drew HO_224004.out)
                                        have n2_ := Aside0.mk (blk_drew BK213.out)
                                        have n3_ := Aside0.mk (blk_drew BK223.out)
                                        have n4_ := Aside0.mk (below_drew1 HB.out)
                                        clear HO_6
                                        clear HO_224004
                                        clear BK213
                                        clear BK223
                                        clear HB
                                        have HO_6 := n0_
                                        have HO_224004 := n1_
                                        have BK213 := n2_
                                        have BK223 := n3_
                                        have HB := n4_
                                        clear n0_ n1_ n2_ n3_ n4_
                                        refine start_ (n := 10) (S := fun w' => w'.cell? ⟨gb223, 0, none⟩ = some (.string t225) ∧ w'.cell? ⟨gb223, 1, none⟩ = some (.string t231) ∧ w'.cell? ⟨gb223, 2, none⟩ = some (.string t232) ∧ w'.cell? ⟨gb223, 3, none⟩ = some (.string t233) ∧ w'.cell? ⟨gb223, 4, none⟩ = some (u224004)) (ds := [9]) #[false, false, false, false, false, false, false, false, false, false] (by kernel_rfl) rfl rfl ⟨(blk_cell BK223.out 0).trans rfl, (blk_cell BK223.out 1).trans rfl, (blk_cell BK223.out 2).trans rfl, (blk_cell BK223.out 3).trans rfl, (blk_cell BK223.out 4).trans rfl⟩ (fun hHeld => ?_); refine with_tabW head_Parse.tab19 head_Parse.bits19 (fun HT_ HW_ => ?_)
                                        generalize wc.drew = w68 at HO_6 HO_224004 BK213 BK223 HB hHeld ⊢
                                        refine pure_ (i := 0) (N := some 105) (v := ?_) (a' := ?_) #[true, false, false, false, false, false, false, false, false, false] rfl rfl (any_of HT_.out (by kernel_rfl)) (fun _ _ _ h => h) (Or.inl ⟨by rfl, ?_⟩) ?_ ?_
                                        rotate_left
                                        · intro w'
                                          go_simp
                                          with_reducible rfl
                                        rotate_left
                                        · simp only [Act.put, List.setIfInBounds_toArray, List.set_cons_zero, List.set_cons_succ, i64_w, i32_w]
                                          rfl
                                        refine pure_ (i := 2) (N := some 107) (v := ?_) (a' := ?_) #[true, false, true, false, false, false, false, false, false, false] rfl rfl (any_of HT_.out (by kernel_rfl)) (fun _ _ _ h => h) (Or.inl ⟨by rfl, ?_⟩) ?_ ?_
                                        rotate_left
                                        · intro w'
                                          go_simp
                                          with_reducible rfl
                                        rotate_left
                                        · simp only [Act.put, List.setIfInBounds_toArray, List.set_cons_zero, List.set_cons_succ, i64_w, i32_w]
                                          rfl
                                        refine pure_ (i := 4) (N := some 109) (v := ?_) (a' := ?_) #[true, false, true, false, true, false, false, false, false, false] rfl rfl (any_of HT_.out (by kernel_rfl)) (fun _ _ _ h => h) (Or.inl ⟨by rfl, ?_⟩) ?_ ?_
                                        rotate_left
                                        · intro w'
                                          go_simp
                                          with_reducible rfl
                                        rotate_left
                                        · simp only [Act.put, List.setIfInBounds_toArray, List.set_cons_zero, List.set_cons_succ, i64_w, i32_w]
                                          rfl
                                        refine take_ (i := 1) (N := some 106) (v := ?_) (a' := ?_) #[true, true, true, false, true, false, false, false, false, false] rfl rfl (take_ofW HT_.out HW_.out (by kernel_rfl)) (fun _ _ _ h => h) (Or.inl ⟨by rfl, ?_⟩) hHeld ?_ ?_
                                        rotate_left
                                        · rintro w' ⟨s0, s1, s2, s3, s4⟩
                                          go_simp
                                          with_reducible rfl
                                        rotate_left
                                        · simp only [Act.put, List.setIfInBounds_toArray, List.set_cons_zero, List.set_cons_succ, i64_w, i32_w]
                                          rfl
                                        refine one_ (i := 3) (N := some 108) #[true, true, true, true, true, false, false, false, false, false] rfl rfl (one_of HT_.out (by kernel_rfl)) (by decide) (fun K hK => ?_)
                                        refine goes_ Tryd.func41 (by kernel_rfl) rfl #[.string t237] (by rfl) rfl rfl (by (try simp only [List.map_toArray, List.map_cons, List.map_nil]); first | done | rfl | (simp only [List.length_drop, List.length_take]; rfl)) ?_
                                        with_reducible refine (head_lower.calls t237 t243 _ A62.out).mono ?_
                                        rintro e w69 ⟨rfl, hb⟩
                                        refine ⟨_, rfl, ?_⟩
                                        have n0_ := Aside0.mk (Kd.R_below (by (with_reducible repeat (first | apply Kd.R_alloc | apply Kd.R_drewN | apply Kd.R_drew)); exact HO_6.out) hb)
                                        have n1_ := Aside0.mk (Kd.R_below (by (with_reducible repeat (first | apply Kd.R_alloc | apply Kd.R_drewN | apply Kd.R_drew)); exact HO_224004.out) hb)
                                        have n2_ := Aside0.mk (blk_below (g := gb213) (o := .cells #[.string x214000_2, .string x214001_2, .string x214002_2, .string x214003_2, .slice none 0 0] 25 (0, 0)) (by (with_reducible repeat (first | refine blk_drewN ?_ _ | refine blk_drew ?_ | refine blk_alloc ?_ _)); exact BK213.out) hb)
                                        have n3_ := Aside0.mk (blk_below (g := gb223) (o := .cells #[.string t225, .string t231, .string t232, .string t233, u224004] 25 (0, 0)) (by (with_reducible repeat (first | refine blk_drewN ?_ _ | refine blk_drew ?_ | refine blk_alloc ?_ _)); exact BK223.out) hb)
                                        have n4_ := Aside0.mk (below_step (by repeat (first | (with_reducible first | exact HB.out | apply below_alloc | apply pw_below_drewN | apply below_drew1 | refine below_set ?_ GE213.out | refine below_set ?_ GE223.out) | exact HB.out)) hb)
                                        clear HO_6
                                        clear HO_224004
                                        clear BK213
                                        clear BK223
                                        clear HB
                                        have HO_6 := n0_
                                        have HO_224004 := n1_
                                        have BK213 := n2_
                                        have BK223 := n3_
                                        have HB := n4_
                                        clear n0_ n1_ n2_ n3_ n4_
                                        (try clear hb)
                                        (try clear hb2)
                                        (try clear hk)
                                        (try clear hi)
                                        refine hK.out _ _ ⟨(blk_cell BK223.out 0).trans rfl, (blk_cell BK223.out 1).trans rfl, (blk_cell BK223.out 2).trans rfl, (blk_cell BK223.out 3).trans rfl, (blk_cell BK223.out 4).trans rfl⟩ (fun hHeld => ?_)
                                        clear hK K
                                        refine norm_ (a' := ?_) ?_ ?_
                                        rotate_left
                                        · show Act.put _ (some 108) _ = _
                                          simp only [Act.put, List.setIfInBounds_toArray, List.set_cons_zero, List.set_cons_succ, i64_w, i32_w]
                                          rfl
                                        refine pure_ (i := 5) (N := some 110) (v := ?_) (a' := ?_) #[true, true, true, true, true, true, false, false, false, false] rfl rfl (any_of HT_.out (by kernel_rfl)) (fun _ _ _ h => h) (Or.inl ⟨by rfl, ?_⟩) ?_ ?_
                                        rotate_left
                                        · intro w'
                                          go_simp
                                          with_reducible rfl
                                        rotate_left
                                        · simp only [Act.put, List.setIfInBounds_toArray, List.set_cons_zero, List.set_cons_succ, i64_w, i32_w]
                                          rfl
                                        refine one_ (i := 6) (N := some 111) #[true, true, true, true, true, true, true, false, false, false] rfl rfl (one_of HT_.out (by kernel_rfl)) (by decide) (fun K hK => ?_)
                                        refine value_ (w1 := ?_) (v := ?_) (by rfl) rfl ?_ ?_
                                        rotate_left 2
                                        · go_simp
                                          constructor
                                          · rfl
                                          · rfl
                                        refine hK.out _ _ ⟨(blk_cell (blk_alloc BK223.out _) 0).trans rfl, (blk_cell (blk_alloc BK223.out _) 1).trans rfl, (blk_cell (blk_alloc BK223.out _) 2).trans rfl, (blk_cell (blk_alloc BK223.out _) 3).trans rfl, (blk_cell (blk_alloc BK223.out _) 4).trans rfl⟩ (fun hHeld => ?_)
                                        clear hK K
                                        refine norm_ (a' := ?_) ?_ ?_
                                        rotate_left
                                        · show Act.put _ (some 111) _ = _
                                          simp only [Act.put, List.setIfInBounds_toArray, List.set_cons_zero, List.set_cons_succ, i64_w, i32_w]
                                          rfl
                                        refine one_ (i := 7) (N := some 112) #[true, true, true, true, true, true, true, true, false, false] rfl rfl (one_of HT_.out (by kernel_rfl)) (by decide) (fun K hK => ?_)
                                        refine Kd.R_append_step k38 (w0 := w) w.heap.size (by rfl) (.tmp 106) (.tmp 111) 23 38 (.agg #[(.string ⟨#[]⟩), (.string ⟨#[]⟩)]) 32 rfl Tryd.underlying23 info38 rfl (by decide) (by omega) u224004 x224004_2 (⟨t243, t240⟩ : S38) [.string t243, .string t240] (fun _ => True) (fun _ => False) rfl rfl ?aP (fun _ hk => hk.elim) ?aF ?aO ?aB ?aS ?aL ?_
                                        (case aP => exact k38_mkM _ _ _ (⟨t243, t240⟩ : S38))
                                        (case aB => exact (by repeat (first | (with_reducible first | exact HB.out | apply below_alloc | apply pw_below_drewN | apply below_drew1 | refine below_set ?_ GE213.out | refine below_set ?_ GE223.out) | exact HB.out)))
                                        (case aF => exact (fun _ _ => trivial))
                                        (case aO => exact (by (with_reducible repeat (first | apply Kd.R_alloc | apply Kd.R_drewN | apply Kd.R_drew)); exact HO_224004.out))
                                        (case aS => exact (below_size (by repeat (first | (with_reducible first | exact HB.out | apply below_alloc | apply pw_below_drewN | apply below_drew1 | refine below_set ?_ GE213.out | refine below_set ?_ GE223.out) | exact HB.out))))
                                        (case aL => have := LMc63.out; omega)
                                        intro v245 w70 ho hb hg hat
                                        rw [← Ny244.out] at ho
                                        have n0_ := Aside0.mk (Kd.R_over' (by (with_reducible repeat (first | apply Kd.R_alloc | apply Kd.R_drewN | apply Kd.R_drew)); exact HO_6.out) (Kd.R_typed (by (with_reducible repeat (first | apply Kd.R_alloc | apply Kd.R_drewN | apply Kd.R_drew)); exact HO_224004.out)) (by decide) hg)
                                        have n1_ := Aside0.mk (blk_grown (g := gb213) (o := .cells #[.string x214000_2, .string x214001_2, .string x214002_2, .string x214003_2, .slice none 0 0] 25 (0, 0)) (by (with_reducible repeat (first | refine blk_drewN ?_ _ | refine blk_drew ?_ | refine blk_alloc ?_ _)); exact BK213.out) hg (Kd.R_ne HO_224004.out BK213.out (by decide)))
                                        have n2_ := Aside0.mk (blk_grown (g := gb223) (o := .cells #[.string t225, .string t231, .string t232, .string t233, u224004] 25 (0, 0)) (by (with_reducible repeat (first | refine blk_drewN ?_ _ | refine blk_drew ?_ | refine blk_alloc ?_ _)); exact BK223.out) hg (Kd.R_ne HO_224004.out BK223.out (by decide)))
                                        have n3_ := Aside0.mk (hb)
                                        have n4_ := Aside0.mk (ho)
                                        clear HO_6
                                        clear BK213
                                        clear BK223
                                        clear HB
                                        clear HO_224004
                                        have HO_6 := n0_
                                        have BK213 := n1_
                                        have BK223 := n2_
                                        have HB := n3_
                                        have HO246 := n4_
                                        clear n0_ n1_ n2_ n3_ n4_
                                        clear ho hb hg hat
                                        obtain ⟨Ao71, co71, eo71⟩ := Kd.R_slice HO246.out
                                        (first | subst eo71 | (injection eo71 with f1_ f2_ f3_; have f4_ := f1_.symm; have f5_ := f3_.symm; clear f1_ f2_ f3_; subst f4_; subst f5_))
                                        refine hK.out _ _ ⟨(blk_cell BK223.out 0).trans rfl, (blk_cell BK223.out 1).trans rfl, (blk_cell BK223.out 2).trans rfl, (blk_cell BK223.out 3).trans rfl, (blk_cell BK223.out 4).trans rfl⟩ (fun hHeld => ?_)
                                        clear hK K
                                        refine norm_ (a' := ?_) ?_ ?_
                                        rotate_left
                                        · show Act.put _ (some 112) _ = _
                                          simp only [Act.put, List.setIfInBounds_toArray, List.set_cons_zero, List.set_cons_succ, i64_w, i32_w]
                                          rfl
                                        refine pure_ (i := 8) (N := some 113) (v := ?_) (a' := ?_) #[true, true, true, true, true, true, true, true, true, false] rfl rfl (any_of HT_.out (by kernel_rfl)) (fun _ _ _ h => h) (Or.inl ⟨by rfl, ?_⟩) ?_ ?_
                                        rotate_left
                                        · intro w'
                                          go_simp
                                          with_reducible rfl
                                        rotate_left
                                        · simp only [Act.put, List.setIfInBounds_toArray, List.set_cons_zero, List.set_cons_succ, i64_w, i32_w]
                                          rfl
                                        refine last_ (i := 9) (N := none) #[true, true, true, true, true, true, true, true, true, true] rfl rfl (one_of HT_.out (by kernel_rfl)) (by decide) (fun K hK => ?_)
                                        have hs72 : w70.cell? ⟨gb223, 4, none⟩ = some (u224004) := (blk_cell BK223.out 4).trans rfl
                                        have hfs72 := blk_frozen BK223.out 4
                                        have hns72_0 := NB213_223.out
                                        have hms72_0 := NB223_213.out
                                        refine skip_ (w1 := ?_) (by rfl) rfl ?_ ?_
                                        rotate_left
                                        · go_simp
                                          rfl
                                        refine hK.out _ _ ?_
                                        clear hK K
                                        refine done_ (done_of HT_.out (by kernel_rfl)) ?_
                                        try go_wp2_with (first | ((with_reducible refine gate_callee (f := 41) rfl ?_); refine goesL_ (some 115) rfl rfl Tryd.func41 (by kernel_rfl) rfl #[.string t237] rfl (by (try simp only [List.map_toArray, List.map_cons, List.map_nil]); first | done | rfl | (simp only [List.length_drop, List.length_take]; rfl)) ?_; (with_reducible refine (head_lower.calls t237 t247 _ A64.out).mono ?_); rintro e w73 ⟨rfl, hb⟩; refine ⟨_, rfl, ?_⟩; have n0_ := Aside0.mk (Kd.R_below (by (with_reducible repeat (first | apply Kd.R_alloc | apply Kd.R_drewN | apply Kd.R_drew)); exact (Kd.R_mono (Kd.R_far (p := ⟨gb223, 4, none⟩) (Kd.R_types HO_6.out BK223.out (by decide)) (fun _ hk => hk.2) (.slice Ao71 y244.length co71)) (fun _ h_ => h_.1))) hb); have n1_ := Aside0.mk (Kd.R_below (by (with_reducible repeat (first | apply Kd.R_alloc | apply Kd.R_drewN | apply Kd.R_drew)); exact (Kd.R_mono (Kd.R_far (p := ⟨gb223, 4, none⟩) (Kd.R_types HO246.out BK223.out (by decide)) (fun _ hk => hk.2) (.slice Ao71 y244.length co71)) (fun _ h_ => h_.1))) hb); have n2_ := Aside0.mk (blk_below (g := gb213) (o := .cells #[.string x214000_2, .string x214001_2, .string x214002_2, .string x214003_2, .slice none 0 0] 25 (0, 0)) (by (with_reducible repeat (first | refine blk_drewN ?_ _ | refine blk_drew ?_ | refine blk_alloc ?_ _)); refine blk_far ?_ NB213_223.out _; (with_reducible repeat (first | refine blk_drewN ?_ _ | refine blk_drew ?_ | refine blk_alloc ?_ _)); exact BK213.out) hb); have n3_ := Aside0.mk (blk_below (g := gb223) (o := .cells #[.string t225, .string t231, .string t232, .string t233, .slice Ao71 y244.length co71] 25 (0, 0)) (by (with_reducible repeat (first | refine blk_drewN ?_ _ | refine blk_drew ?_ | refine blk_alloc ?_ _)); refine blk_put (cs := #[.string t225, .string t231, .string t232, .string t233, u224004]) ?_ 4 _ rfl; (with_reducible repeat (first | refine blk_drewN ?_ _ | refine blk_drew ?_ | refine blk_alloc ?_ _)); exact BK223.out) hb); have n4_ := Aside0.mk (below_step (by repeat (first | (with_reducible first | exact HB.out | apply below_alloc | apply pw_below_drewN | apply below_drew1 | refine below_set ?_ GE213.out | refine below_set ?_ GE223.out) | exact HB.out)) hb); clear HO_6; clear HO246; clear BK213; clear BK223; clear HB; have HO_6 := n0_; have HO246 := n1_; have BK213 := n2_; have BK223 := n3_; have HB := n4_; clear n0_ n1_ n2_ n3_ n4_; (try clear hb); (try clear hb2); (try clear hk); (try clear hi)) | ((with_reducible refine gate_callee (f := 18) rfl ?_); refine goesL_ (some 121) rfl rfl Tryd.func18 (by kernel_rfl) rfl #[.string t240] rfl (by (try simp only [List.map_toArray, List.map_cons, List.map_nil]); first | done | rfl | (simp only [List.length_drop, List.length_take]; rfl)) ?_; (with_reducible refine (head_Host.calls kj52 t240 t248 true _ ?side1 A66.out).mono ?_); (case side1 => exact ML.keep HML.out (by repeat (first | (with_reducible first | exact HB.out | apply below_alloc | apply pw_below_drewN | apply below_drew1 | refine below_set ?_ GE213.out | refine below_set ?_ GE223.out) | exact HB.out))); rintro e w74 ⟨rfl, hb⟩; refine ⟨_, rfl, ?_⟩; have n0_ := Aside0.mk (Kd.R_below (by (with_reducible repeat (first | apply Kd.R_alloc | apply Kd.R_drewN | apply Kd.R_drew)); exact HO_6.out) hb); have n1_ := Aside0.mk (Kd.R_below (by (with_reducible repeat (first | apply Kd.R_alloc | apply Kd.R_drewN | apply Kd.R_drew)); exact HO246.out) hb); have n2_ := Aside0.mk (blk_below (g := gb213) (o := .cells #[.string x214000_2, .string x214001_2, .string x214002_2, .string x214003_2, .slice none 0 0] 25 (0, 0)) (by (with_reducible repeat (first | refine blk_drewN ?_ _ | refine blk_drew ?_ | refine blk_alloc ?_ _)); exact BK213.out) hb); have n3_ := Aside0.mk (blk_below (g := gb223) (o := .cells #[.string t225, .string t231, .string t232, .string t233, .slice Ao71 y244.length co71] 25 (0, 0)) (by (with_reducible repeat (first | refine blk_drewN ?_ _ | refine blk_drew ?_ | refine blk_alloc ?_ _)); exact BK223.out) hb); have n4_ := Aside0.mk (below_step (by repeat (first | (with_reducible first | exact HB.out | apply below_alloc | apply pw_below_drewN | apply below_drew1 | refine below_set ?_ GE213.out | refine below_set ?_ GE223.out) | exact HB.out)) hb); clear HO_6; clear HO246; clear BK213; clear BK223; clear HB; have HO_6 := n0_; have HO246 := n1_; have BK213 := n2_; have BK223 := n3_; have HB := n4_; clear n0_ n1_ n2_ n3_ n4_; (try clear hb); (try clear hb2); (try clear hk); (try clear hi)))
                                        refine wp_goto ?_
                                        refine Or.inr ⟨rfl, ?_⟩
                                        go_step
                                        go_roundg kj52
                                        case measure => have := HJ26.out; have := HK2.out; have := HJ52.out; omega
                                        case rel => exact ⟨(wrap64 (x9_2 + 1)), (wrap64 (x10_2 + 1)), (t248), (x214000_2), (x214001_2), (x214002_2), (x214003_2), (y244), (.slice Ao71 y244.length co71), (by first | rfl | (simp; done) | (simp [*]; done)), (by first | rfl | (simp; done) | (simp [*]; done)), (by first | rfl | (simp; done) | (simp [*]; done)), H', ⟨by have := HJ26.out; have := HK2.out; have := HJ52.out; omega⟩, ⟨by (with_reducible repeat (first | apply Kd.R_alloc | apply Kd.R_drewN | apply Kd.R_drew)); exact HO_6.out⟩, ⟨by (with_reducible repeat (first | apply Kd.R_alloc | apply Kd.R_drewN | apply Kd.R_drew)); exact HO246.out⟩, ⟨by (with_reducible repeat (first | refine blk_drewN ?_ _ | refine blk_drew ?_ | refine blk_alloc ?_ _)); exact BK213.out⟩, ⟨by (with_reducible repeat (first | refine blk_drewN ?_ _ | refine blk_drew ?_ | refine blk_alloc ?_ _)); exact BK223.out⟩, ⟨by repeat (first | (with_reducible first | exact HB.out | apply below_alloc | apply pw_below_drewN | apply below_drew1 | refine below_set ?_ GE213.out | refine below_set ?_ GE223.out) | exact HB.out)⟩⟩
                                      · replace c67 := Bool.eq_false_iff.mpr c67
                                        subst c67
                                        have H1 : (some ((⟨#[]⟩ : ByteArray), (⟨#[]⟩ : ByteArray), (⟨#[]⟩ : ByteArray), (⟨#[]⟩ : ByteArray), ([] : List (S38)), 0, 4)) = some (r1, r2, r3, r4, r5, r6, r7) := by rw [if_neg (show ¬ (false = true) by decide)] at H; exact H
                                        clear H
                                        have H := H1
                                        clear H1
                                        simp only [Option.some.injEq, Prod.mk.injEq] at H
                                        obtain ⟨rfl, rfl, rfl, rfl, rfl, rfl, rfl⟩ := H
                                        try go_wp2
                                        have n0_ := Aside0.mk (Kd.R_drew HO_6.out)
                                        have n1_ := Aside0.mk (Kd.R_drew HO_224004.out)
                                        have n2_ := Aside0.mk (blk_drew BK213.out)
                                        have n3_ := Aside0.mk (blk_drew BK223.out)
                                        have n4_ := Aside0.mk (below_drew1 HB.out)
                                        clear HO_6
                                        clear HO_224004
                                        clear BK213
                                        clear BK223
                                        clear HB
                                        have HO_6 := n0_
                                        have HO_224004 := n1_
                                        have BK213 := n2_
                                        have BK223 := n3_
                                        have HB := n4_
                                        clear n0_ n1_ n2_ n3_ n4_
                                        refine start_ (n := 10) (S := fun w' => w'.cell? ⟨gb223, 0, none⟩ = some (.string t225) ∧ w'.cell? ⟨gb223, 1, none⟩ = some (.string t231) ∧ w'.cell? ⟨gb223, 2, none⟩ = some (.string t232) ∧ w'.cell? ⟨gb223, 3, none⟩ = some (.string t233) ∧ w'.cell? ⟨gb223, 4, none⟩ = some (u224004)) (ds := [9]) #[false, false, false, false, false, false, false, false, false, false] (by kernel_rfl) rfl rfl ⟨(blk_cell BK223.out 0).trans rfl, (blk_cell BK223.out 1).trans rfl, (blk_cell BK223.out 2).trans rfl, (blk_cell BK223.out 3).trans rfl, (blk_cell BK223.out 4).trans rfl⟩ (fun hHeld => ?_); refine with_tabW head_Parse.tab19 head_Parse.bits19 (fun HT_ HW_ => ?_)
                                        generalize wc.drew = w75 at HO_6 HO_224004 BK213 BK223 HB hHeld ⊢
                                        refine pure_ (i := 0) (N := some 105) (v := ?_) (a' := ?_) #[true, false, false, false, false, false, false, false, false, false] rfl rfl (any_of HT_.out (by kernel_rfl)) (fun _ _ _ h => h) (Or.inl ⟨by rfl, ?_⟩) ?_ ?_
                                        rotate_left
                                        · intro w'
                                          go_simp
                                          with_reducible rfl
                                        rotate_left
                                        · simp only [Act.put, List.setIfInBounds_toArray, List.set_cons_zero, List.set_cons_succ, i64_w, i32_w]
                                          rfl
                                        refine pure_ (i := 2) (N := some 107) (v := ?_) (a' := ?_) #[true, false, true, false, false, false, false, false, false, false] rfl rfl (any_of HT_.out (by kernel_rfl)) (fun _ _ _ h => h) (Or.inl ⟨by rfl, ?_⟩) ?_ ?_
                                        rotate_left
                                        · intro w'
                                          go_simp
                                          with_reducible rfl
                                        rotate_left
                                        · simp only [Act.put, List.setIfInBounds_toArray, List.set_cons_zero, List.set_cons_succ, i64_w, i32_w]
                                          rfl
                                        refine pure_ (i := 4) (N := some 109) (v := ?_) (a' := ?_) #[true, false, true, false, true, false, false, false, false, false] rfl rfl (any_of HT_.out (by kernel_rfl)) (fun _ _ _ h => h) (Or.inl ⟨by rfl, ?_⟩) ?_ ?_
                                        rotate_left
                                        · intro w'
                                          go_simp
                                          with_reducible rfl
                                        rotate_left
                                        · simp only [Act.put, List.setIfInBounds_toArray, List.set_cons_zero, List.set_cons_succ, i64_w, i32_w]
                                          rfl
                                        refine take_ (i := 1) (N := some 106) (v := ?_) (a' := ?_) #[true, true, true, false, true, false, false, false, false, false] rfl rfl (take_ofW HT_.out HW_.out (by kernel_rfl)) (fun _ _ _ h => h) (Or.inl ⟨by rfl, ?_⟩) hHeld ?_ ?_
                                        rotate_left
                                        · rintro w' ⟨s0, s1, s2, s3, s4⟩
                                          go_simp
                                          with_reducible rfl
                                        rotate_left
                                        · simp only [Act.put, List.setIfInBounds_toArray, List.set_cons_zero, List.set_cons_succ, i64_w, i32_w]
                                          rfl
                                        refine one_ (i := 3) (N := some 108) #[true, true, true, true, true, false, false, false, false, false] rfl rfl (one_of HT_.out (by kernel_rfl)) (by decide) (fun K hK => ?_)
                                        refine goes_ Tryd.func41 (by kernel_rfl) rfl #[.string t237] (by rfl) rfl rfl (by (try simp only [List.map_toArray, List.map_cons, List.map_nil]); first | done | rfl | (simp only [List.length_drop, List.length_take]; rfl)) ?_
                                        with_reducible refine (head_lower.calls t237 t243 _ A62.out).mono ?_
                                        rintro e w76 ⟨rfl, hb⟩
                                        refine ⟨_, rfl, ?_⟩
                                        have n0_ := Aside0.mk (Kd.R_below (by (with_reducible repeat (first | apply Kd.R_alloc | apply Kd.R_drewN | apply Kd.R_drew)); exact HO_6.out) hb)
                                        have n1_ := Aside0.mk (Kd.R_below (by (with_reducible repeat (first | apply Kd.R_alloc | apply Kd.R_drewN | apply Kd.R_drew)); exact HO_224004.out) hb)
                                        have n2_ := Aside0.mk (blk_below (g := gb213) (o := .cells #[.string x214000_2, .string x214001_2, .string x214002_2, .string x214003_2, .slice none 0 0] 25 (0, 0)) (by (with_reducible repeat (first | refine blk_drewN ?_ _ | refine blk_drew ?_ | refine blk_alloc ?_ _)); exact BK213.out) hb)
                                        have n3_ := Aside0.mk (blk_below (g := gb223) (o := .cells #[.string t225, .string t231, .string t232, .string t233, u224004] 25 (0, 0)) (by (with_reducible repeat (first | refine blk_drewN ?_ _ | refine blk_drew ?_ | refine blk_alloc ?_ _)); exact BK223.out) hb)
                                        have n4_ := Aside0.mk (below_step (by repeat (first | (with_reducible first | exact HB.out | apply below_alloc | apply pw_below_drewN | apply below_drew1 | refine below_set ?_ GE213.out | refine below_set ?_ GE223.out) | exact HB.out)) hb)
                                        clear HO_6
                                        clear HO_224004
                                        clear BK213
                                        clear BK223
                                        clear HB
                                        have HO_6 := n0_
                                        have HO_224004 := n1_
                                        have BK213 := n2_
                                        have BK223 := n3_
                                        have HB := n4_
                                        clear n0_ n1_ n2_ n3_ n4_
                                        (try clear hb)
                                        (try clear hb2)
                                        (try clear hk)
                                        (try clear hi)
                                        refine hK.out _ _ ⟨(blk_cell BK223.out 0).trans rfl, (blk_cell BK223.out 1).trans rfl, (blk_cell BK223.out 2).trans rfl, (blk_cell BK223.out 3).trans rfl, (blk_cell BK223.out 4).trans rfl⟩ (fun hHeld => ?_)
                                        clear hK K
                                        refine norm_ (a' := ?_) ?_ ?_
                                        rotate_left
                                        · show Act.put _ (some 108) _ = _
                                          simp only [Act.put, List.setIfInBounds_toArray, List.set_cons_zero, List.set_cons_succ, i64_w, i32_w]
                                          rfl
                                        refine pure_ (i := 5) (N := some 110) (v := ?_) (a' := ?_) #[true, true, true, true, true, true, false, false, false, false] rfl rfl (any_of HT_.out (by kernel_rfl)) (fun _ _ _ h => h) (Or.inl ⟨by rfl, ?_⟩) ?_ ?_
                                        rotate_left
                                        · intro w'
                                          go_simp
                                          with_reducible rfl
                                        rotate_left
                                        · simp only [Act.put, List.setIfInBounds_toArray, List.set_cons_zero, List.set_cons_succ, i64_w, i32_w]
                                          rfl
                                        refine one_ (i := 6) (N := some 111) #[true, true, true, true, true, true, true, false, false, false] rfl rfl (one_of HT_.out (by kernel_rfl)) (by decide) (fun K hK => ?_)
                                        refine value_ (w1 := ?_) (v := ?_) (by rfl) rfl ?_ ?_
                                        rotate_left 2
                                        · go_simp
                                          constructor
                                          · rfl
                                          · rfl
                                        refine hK.out _ _ ⟨(blk_cell (blk_alloc BK223.out _) 0).trans rfl, (blk_cell (blk_alloc BK223.out _) 1).trans rfl, (blk_cell (blk_alloc BK223.out _) 2).trans rfl, (blk_cell (blk_alloc BK223.out _) 3).trans rfl, (blk_cell (blk_alloc BK223.out _) 4).trans rfl⟩ (fun hHeld => ?_)
                                        clear hK K
                                        refine norm_ (a' := ?_) ?_ ?_
                                        rotate_left
                                        · show Act.put _ (some 111) _ = _
                                          simp only [Act.put, List.setIfInBounds_toArray, List.set_cons_zero, List.set_cons_succ, i64_w, i32_w]
                                          rfl
                                        refine one_ (i := 7) (N := some 112) #[true, true, true, true, true, true, true, true, false, false] rfl rfl (one_of HT_.out (by kernel_rfl)) (by decide) (fun K hK => ?_)
                                        refine Kd.R_append_step k38 (w0 := w) w.heap.size (by rfl) (.tmp 106) (.tmp 111) 23 38 (.agg #[(.string ⟨#[]⟩), (.string ⟨#[]⟩)]) 32 rfl Tryd.underlying23 info38 rfl (by decide) (by omega) u224004 x224004_2 (⟨t243, t240⟩ : S38) [.string t243, .string t240] (fun _ => True) (fun _ => False) rfl rfl ?aP (fun _ hk => hk.elim) ?aF ?aO ?aB ?aS ?aL ?_
                                        (case aP => exact k38_mkM _ _ _ (⟨t243, t240⟩ : S38))
                                        (case aB => exact (by repeat (first | (with_reducible first | exact HB.out | apply below_alloc | apply pw_below_drewN | apply below_drew1 | refine below_set ?_ GE213.out | refine below_set ?_ GE223.out) | exact HB.out)))
                                        (case aF => exact (fun _ _ => trivial))
                                        (case aO => exact (by (with_reducible repeat (first | apply Kd.R_alloc | apply Kd.R_drewN | apply Kd.R_drew)); exact HO_224004.out))
                                        (case aS => exact (below_size (by repeat (first | (with_reducible first | exact HB.out | apply below_alloc | apply pw_below_drewN | apply below_drew1 | refine below_set ?_ GE213.out | refine below_set ?_ GE223.out) | exact HB.out))))
                                        (case aL => have := LMc63.out; omega)
                                        intro v245 w77 ho hb hg hat
                                        rw [← Ny244.out] at ho
                                        have n0_ := Aside0.mk (Kd.R_over' (by (with_reducible repeat (first | apply Kd.R_alloc | apply Kd.R_drewN | apply Kd.R_drew)); exact HO_6.out) (Kd.R_typed (by (with_reducible repeat (first | apply Kd.R_alloc | apply Kd.R_drewN | apply Kd.R_drew)); exact HO_224004.out)) (by decide) hg)
                                        have n1_ := Aside0.mk (blk_grown (g := gb213) (o := .cells #[.string x214000_2, .string x214001_2, .string x214002_2, .string x214003_2, .slice none 0 0] 25 (0, 0)) (by (with_reducible repeat (first | refine blk_drewN ?_ _ | refine blk_drew ?_ | refine blk_alloc ?_ _)); exact BK213.out) hg (Kd.R_ne HO_224004.out BK213.out (by decide)))
                                        have n2_ := Aside0.mk (blk_grown (g := gb223) (o := .cells #[.string t225, .string t231, .string t232, .string t233, u224004] 25 (0, 0)) (by (with_reducible repeat (first | refine blk_drewN ?_ _ | refine blk_drew ?_ | refine blk_alloc ?_ _)); exact BK223.out) hg (Kd.R_ne HO_224004.out BK223.out (by decide)))
                                        have n3_ := Aside0.mk (hb)
                                        have n4_ := Aside0.mk (ho)
                                        clear HO_6
                                        clear BK213
                                        clear BK223
                                        clear HB
                                        clear HO_224004
                                        have HO_6 := n0_
                                        have BK213 := n1_
                                        have BK223 := n2_
                                        have HB := n3_
                                        have HO246 := n4_
                                        clear n0_ n1_ n2_ n3_ n4_
                                        clear ho hb hg hat
                                        obtain ⟨Ao78, co78, eo78⟩ := Kd.R_slice HO246.out
                                        (first | subst eo78 | (injection eo78 with f1_ f2_ f3_; have f4_ := f1_.symm; have f5_ := f3_.symm; clear f1_ f2_ f3_; subst f4_; subst f5_))
                                        refine hK.out _ _ ⟨(blk_cell BK223.out 0).trans rfl, (blk_cell BK223.out 1).trans rfl, (blk_cell BK223.out 2).trans rfl, (blk_cell BK223.out 3).trans rfl, (blk_cell BK223.out 4).trans rfl⟩ (fun hHeld => ?_)
                                        clear hK K
                                        refine norm_ (a' := ?_) ?_ ?_
                                        rotate_left
                                        · show Act.put _ (some 112) _ = _
                                          simp only [Act.put, List.setIfInBounds_toArray, List.set_cons_zero, List.set_cons_succ, i64_w, i32_w]
                                          rfl
                                        refine pure_ (i := 8) (N := some 113) (v := ?_) (a' := ?_) #[true, true, true, true, true, true, true, true, true, false] rfl rfl (any_of HT_.out (by kernel_rfl)) (fun _ _ _ h => h) (Or.inl ⟨by rfl, ?_⟩) ?_ ?_
                                        rotate_left
                                        · intro w'
                                          go_simp
                                          with_reducible rfl
                                        rotate_left
                                        · simp only [Act.put, List.setIfInBounds_toArray, List.set_cons_zero, List.set_cons_succ, i64_w, i32_w]
                                          rfl
                                        refine last_ (i := 9) (N := none) #[true, true, true, true, true, true, true, true, true, true] rfl rfl (one_of HT_.out (by kernel_rfl)) (by decide) (fun K hK => ?_)
                                        have hs79 : w77.cell? ⟨gb223, 4, none⟩ = some (u224004) := (blk_cell BK223.out 4).trans rfl
                                        have hfs79 := blk_frozen BK223.out 4
                                        have hns79_0 := NB213_223.out
                                        have hms79_0 := NB223_213.out
                                        refine skip_ (w1 := ?_) (by rfl) rfl ?_ ?_
                                        rotate_left
                                        · go_simp
                                          rfl
                                        refine hK.out _ _ ?_
                                        clear hK K
                                        refine done_ (done_of HT_.out (by kernel_rfl)) ?_
                                        try go_wp2_with (first | ((with_reducible refine gate_callee (f := 41) rfl ?_); refine goesL_ (some 115) rfl rfl Tryd.func41 (by kernel_rfl) rfl #[.string t237] rfl (by (try simp only [List.map_toArray, List.map_cons, List.map_nil]); first | done | rfl | (simp only [List.length_drop, List.length_take]; rfl)) ?_; (with_reducible refine (head_lower.calls t237 t247 _ A64.out).mono ?_); rintro e w80 ⟨rfl, hb⟩; refine ⟨_, rfl, ?_⟩; have n0_ := Aside0.mk (Kd.R_below (by (with_reducible repeat (first | apply Kd.R_alloc | apply Kd.R_drewN | apply Kd.R_drew)); exact (Kd.R_mono (Kd.R_far (p := ⟨gb223, 4, none⟩) (Kd.R_types HO_6.out BK223.out (by decide)) (fun _ hk => hk.2) (.slice Ao78 y244.length co78)) (fun _ h_ => h_.1))) hb); have n1_ := Aside0.mk (Kd.R_below (by (with_reducible repeat (first | apply Kd.R_alloc | apply Kd.R_drewN | apply Kd.R_drew)); exact (Kd.R_mono (Kd.R_far (p := ⟨gb223, 4, none⟩) (Kd.R_types HO246.out BK223.out (by decide)) (fun _ hk => hk.2) (.slice Ao78 y244.length co78)) (fun _ h_ => h_.1))) hb); have n2_ := Aside0.mk (blk_below (g := gb213) (o := .cells #[.string x214000_2, .string x214001_2, .string x214002_2, .string x214003_2, .slice none 0 0] 25 (0, 0)) (by (with_reducible repeat (first | refine blk_drewN ?_ _ | refine blk_drew ?_ | refine blk_alloc ?_ _)); refine blk_far ?_ NB213_223.out _; (with_reducible repeat (first | refine blk_drewN ?_ _ | refine blk_drew ?_ | refine blk_alloc ?_ _)); exact BK213.out) hb); have n3_ := Aside0.mk (blk_below (g := gb223) (o := .cells #[.string t225, .string t231, .string t232, .string t233, .slice Ao78 y244.length co78] 25 (0, 0)) (by (with_reducible repeat (first | refine blk_drewN ?_ _ | refine blk_drew ?_ | refine blk_alloc ?_ _)); refine blk_put (cs := #[.string t225, .string t231, .string t232, .string t233, u224004]) ?_ 4 _ rfl; (with_reducible repeat (first | refine blk_drewN ?_ _ | refine blk_drew ?_ | refine blk_alloc ?_ _)); exact BK223.out) hb); have n4_ := Aside0.mk (below_step (by repeat (first | (with_reducible first | exact HB.out | apply below_alloc | apply pw_below_drewN | apply below_drew1 | refine below_set ?_ GE213.out | refine below_set ?_ GE223.out) | exact HB.out)) hb); clear HO_6; clear HO246; clear BK213; clear BK223; clear HB; have HO_6 := n0_; have HO246 := n1_; have BK213 := n2_; have BK223 := n3_; have HB := n4_; clear n0_ n1_ n2_ n3_ n4_; (try clear hb); (try clear hb2); (try clear hk); (try clear hi)) | ((with_reducible refine gate_callee (f := 18) rfl ?_); refine goesL_ (some 121) rfl rfl Tryd.func18 (by kernel_rfl) rfl #[.string t240] rfl (by (try simp only [List.map_toArray, List.map_cons, List.map_nil]); first | done | rfl | (simp only [List.length_drop, List.length_take]; rfl)) ?_; (with_reducible refine (head_Host.calls kj52 t240 t248 false _ ?side1 A66.out).mono ?_); (case side1 => exact ML.keep HML.out (by repeat (first | (with_reducible first | exact HB.out | apply below_alloc | apply pw_below_drewN | apply below_drew1 | refine below_set ?_ GE213.out | refine below_set ?_ GE223.out) | exact HB.out))); rintro e w81 ⟨rfl, hb⟩; refine ⟨_, rfl, ?_⟩; have n0_ := Aside0.mk (Kd.R_below (by (with_reducible repeat (first | apply Kd.R_alloc | apply Kd.R_drewN | apply Kd.R_drew)); exact HO_6.out) hb); have n1_ := Aside0.mk (Kd.R_below (by (with_reducible repeat (first | apply Kd.R_alloc | apply Kd.R_drewN | apply Kd.R_drew)); exact HO246.out) hb); have n2_ := Aside0.mk (blk_below (g := gb213) (o := .cells #[.string x214000_2, .string x214001_2, .string x214002_2, .string x214003_2, .slice none 0 0] 25 (0, 0)) (by (with_reducible repeat (first | refine blk_drewN ?_ _ | refine blk_drew ?_ | refine blk_alloc ?_ _)); exact BK213.out) hb); have n3_ := Aside0.mk (blk_below (g := gb223) (o := .cells #[.string t225, .string t231, .string t232, .string t233, .slice Ao78 y244.length co78] 25 (0, 0)) (by (with_reducible repeat (first | refine blk_drewN ?_ _ | refine blk_drew ?_ | refine blk_alloc ?_ _)); exact BK223.out) hb); have n4_ := Aside0.mk (below_step (by repeat (first | (with_reducible first | exact HB.out | apply below_alloc | apply pw_below_drewN | apply below_drew1 | refine below_set ?_ GE213.out | refine below_set ?_ GE223.out) | exact HB.out)) hb); clear HO_6; clear HO246; clear BK213; clear BK223; clear HB; have HO_6 := n0_; have HO246 := n1_; have BK213 := n2_; have BK223 := n3_; have HB := n4_; clear n0_ n1_ n2_ n3_ n4_; (try clear hb); (try clear hb2); (try clear hk); (try clear hi); have hnb82 := NB213_223.out; have hnc82 := NB223_213.out; have hcz83_0 : w81.cell? ⟨gb213, 0, none⟩ = some (.string x214000_2) := (blk_cell BK213.out 0).trans rfl; have hcz83_1 : w81.cell? ⟨gb213, 1, none⟩ = some (.string x214001_2) := (blk_cell BK213.out 1).trans rfl; have hcz83_2 : w81.cell? ⟨gb213, 2, none⟩ = some (.string x214002_2) := (blk_cell BK213.out 2).trans rfl; have hcz83_3 : w81.cell? ⟨gb213, 3, none⟩ = some (.string x214003_2) := (blk_cell BK213.out 3).trans rfl; have hcz83_4 : w81.cell? ⟨gb213, 4, none⟩ = some (.slice none 0 0) := (blk_cell BK213.out 4).trans rfl; have hfz83_0 := blk_frozen BK213.out 0; have hfz83_1 := blk_frozen BK213.out 1; have hfz83_2 := blk_frozen BK213.out 2; have hfz83_3 := blk_frozen BK213.out 3; have hfz83_4 := blk_frozen BK213.out 4))
                                        (try ((with_reducible refine wp_goto ?_); refine Or.inl ⟨rfl, ?_⟩; refine hK0.out _ _ ?_; go_wp2))
                                        (try simp only [Exit.two_ret, Exit.noGoto_ret])
                                        refine bodyPost_ret (results_ctt rfl _ _ gb213 25 #[.string (⟨#[]⟩ : ByteArray), .string (⟨#[]⟩ : ByteArray), .string (⟨#[]⟩ : ByteArray), .string (⟨#[]⟩ : ByteArray), .slice none 0 0] (0, 0) _ rfl (by (with_reducible repeat (first | refine blk_drewN ?_ _ | refine blk_drew ?_ | refine blk_alloc ?_ _)); refine blk_put (cs := #[.string (⟨#[]⟩ : ByteArray), .string (⟨#[]⟩ : ByteArray), .string (⟨#[]⟩ : ByteArray), .string (⟨#[]⟩ : ByteArray), .slice none 0 0]) ?_ 4 _ rfl; (with_reducible repeat (first | refine blk_drewN ?_ _ | refine blk_drew ?_ | refine blk_alloc ?_ _)); refine blk_put (cs := #[.string (⟨#[]⟩ : ByteArray), .string (⟨#[]⟩ : ByteArray), .string (⟨#[]⟩ : ByteArray), .string x214003_2, .slice none 0 0]) ?_ 3 _ rfl; (with_reducible repeat (first | refine blk_drewN ?_ _ | refine blk_drew ?_ | refine blk_alloc ?_ _)); refine blk_put (cs := #[.string (⟨#[]⟩ : ByteArray), .string (⟨#[]⟩ : ByteArray), .string x214002_2, .string x214003_2, .slice none 0 0]) ?_ 2 _ rfl; (with_reducible repeat (first | refine blk_drewN ?_ _ | refine blk_drew ?_ | refine blk_alloc ?_ _)); refine blk_put (cs := #[.string (⟨#[]⟩ : ByteArray), .string x214001_2, .string x214002_2, .string x214003_2, .slice none 0 0]) ?_ 1 _ rfl; (with_reducible repeat (first | refine blk_drewN ?_ _ | refine blk_drew ?_ | refine blk_alloc ?_ _)); refine blk_put (cs := #[.string x214000_2, .string x214001_2, .string x214002_2, .string x214003_2, .slice none 0 0]) ?_ 0 _ rfl; (with_reducible repeat (first | refine blk_drewN ?_ _ | refine blk_drew ?_ | refine blk_alloc ?_ _)); exact BK213.out) Tryd.underlying25 rfl (by kernel_rfl)) rfl ?_
                                        exact ⟨_, by first | rfl | (simp [errW_none, errW_some] <;> rfl) | (simp only [← hji2]; first | rfl | (simp [errW_none, errW_some] <;> rfl)) | (simp [*, errW_none, errW_some] <;> rfl), by first | exact Kd.R_nil _ _ _ _ _ | exact Kd.N_nil _ _ _ _ _ | exact Kd.V_nil _ _ _ _ _ | exact Kd.Q_nil _ _ _ _ _ | exact Kd.S_nil _ _ _ _ _, by repeat (first | (with_reducible first | exact HB.out | apply below_alloc | apply pw_below_drewN | apply below_drew1 | refine below_set ?_ GE213.out | refine below_set ?_ GE223.out) | exact HB.out)⟩
                                    · rw [if_neg c65] at H
                                      have c65b0 : (t247.toList == ([104, 111, 115, 116] : List UInt8)) = false := beq_eq_false_iff_ne.mpr c65
                                      have c65b1 : (t247.toList != ([104, 111, 115, 116] : List UInt8)) = true := bne_iff_ne.mpr c65
                                      have H' := Aside0.mk H
                                      clear H
                                      try go_wp2
                                      have n0_ := Aside0.mk (Kd.R_drew HO_6.out)
                                      have n1_ := Aside0.mk (Kd.R_drew HO_224004.out)
                                      have n2_ := Aside0.mk (blk_drew BK213.out)
                                      have n3_ := Aside0.mk (blk_drew BK223.out)
                                      have n4_ := Aside0.mk (below_drew1 HB.out)
                                      clear HO_6
                                      clear HO_224004
                                      clear BK213
                                      clear BK223
                                      clear HB
                                      have HO_6 := n0_
                                      have HO_224004 := n1_
                                      have BK213 := n2_
                                      have BK223 := n3_
                                      have HB := n4_
                                      clear n0_ n1_ n2_ n3_ n4_
                                      refine start_ (n := 10) (S := fun w' => w'.cell? ⟨gb223, 0, none⟩ = some (.string t225) ∧ w'.cell? ⟨gb223, 1, none⟩ = some (.string t231) ∧ w'.cell? ⟨gb223, 2, none⟩ = some (.string t232) ∧ w'.cell? ⟨gb223, 3, none⟩ = some (.string t233) ∧ w'.cell? ⟨gb223, 4, none⟩ = some (u224004)) (ds := [9]) #[false, false, false, false, false, false, false, false, false, false] (by kernel_rfl) rfl rfl ⟨(blk_cell BK223.out 0).trans rfl, (blk_cell BK223.out 1).trans rfl, (blk_cell BK223.out 2).trans rfl, (blk_cell BK223.out 3).trans rfl, (blk_cell BK223.out 4).trans rfl⟩ (fun hHeld => ?_); refine with_tabW head_Parse.tab19 head_Parse.bits19 (fun HT_ HW_ => ?_)
                                      generalize wc.drew = w84 at HO_6 HO_224004 BK213 BK223 HB hHeld ⊢
                                      refine pure_ (i := 0) (N := some 105) (v := ?_) (a' := ?_) #[true, false, false, false, false, false, false, false, false, false] rfl rfl (any_of HT_.out (by kernel_rfl)) (fun _ _ _ h => h) (Or.inl ⟨by rfl, ?_⟩) ?_ ?_
                                      rotate_left
                                      · intro w'
                                        go_simp
                                        with_reducible rfl
                                      rotate_left
                                      · simp only [Act.put, List.setIfInBounds_toArray, List.set_cons_zero, List.set_cons_succ, i64_w, i32_w]
                                        rfl
                                      refine pure_ (i := 2) (N := some 107) (v := ?_) (a' := ?_) #[true, false, true, false, false, false, false, false, false, false] rfl rfl (any_of HT_.out (by kernel_rfl)) (fun _ _ _ h => h) (Or.inl ⟨by rfl, ?_⟩) ?_ ?_
                                      rotate_left
                                      · intro w'
                                        go_simp
                                        with_reducible rfl
                                      rotate_left
                                      · simp only [Act.put, List.setIfInBounds_toArray, List.set_cons_zero, List.set_cons_succ, i64_w, i32_w]
                                        rfl
                                      refine pure_ (i := 4) (N := some 109) (v := ?_) (a' := ?_) #[true, false, true, false, true, false, false, false, false, false] rfl rfl (any_of HT_.out (by kernel_rfl)) (fun _ _ _ h => h) (Or.inl ⟨by rfl, ?_⟩) ?_ ?_
                                      rotate_left
                                      · intro w'
                                        go_simp
                                        with_reducible rfl
                                      rotate_left
                                      · simp only [Act.put, List.setIfInBounds_toArray, List.set_cons_zero, List.set_cons_succ, i64_w, i32_w]
                                        rfl
                                      refine take_ (i := 1) (N := some 106) (v := ?_) (a' := ?_) #[true, true, true, false, true, false, false, false, false, false] rfl rfl (take_ofW HT_.out HW_.out (by kernel_rfl)) (fun _ _ _ h => h) (Or.inl ⟨by rfl, ?_⟩) hHeld ?_ ?_
                                      rotate_left
                                      · rintro w' ⟨s0, s1, s2, s3, s4⟩
                                        go_simp
                                        with_reducible rfl
                                      rotate_left
                                      · simp only [Act.put, List.setIfInBounds_toArray, List.set_cons_zero, List.set_cons_succ, i64_w, i32_w]
                                        rfl
                                      refine one_ (i := 3) (N := some 108) #[true, true, true, true, true, false, false, false, false, false] rfl rfl (one_of HT_.out (by kernel_rfl)) (by decide) (fun K hK => ?_)
                                      refine goes_ Tryd.func41 (by kernel_rfl) rfl #[.string t237] (by rfl) rfl rfl (by (try simp only [List.map_toArray, List.map_cons, List.map_nil]); first | done | rfl | (simp only [List.length_drop, List.length_take]; rfl)) ?_
                                      with_reducible refine (head_lower.calls t237 t243 _ A62.out).mono ?_
                                      rintro e w85 ⟨rfl, hb⟩
                                      refine ⟨_, rfl, ?_⟩
                                      have n0_ := Aside0.mk (Kd.R_below (by (with_reducible repeat (first | apply Kd.R_alloc | apply Kd.R_drewN | apply Kd.R_drew)); exact HO_6.out) hb)
                                      have n1_ := Aside0.mk (Kd.R_below (by (with_reducible repeat (first | apply Kd.R_alloc | apply Kd.R_drewN | apply Kd.R_drew)); exact HO_224004.out) hb)
                                      have n2_ := Aside0.mk (blk_below (g := gb213) (o := .cells #[.string x214000_2, .string x214001_2, .string x214002_2, .string x214003_2, .slice none 0 0] 25 (0, 0)) (by (with_reducible repeat (first | refine blk_drewN ?_ _ | refine blk_drew ?_ | refine blk_alloc ?_ _)); exact BK213.out) hb)
                                      have n3_ := Aside0.mk (blk_below (g := gb223) (o := .cells #[.string t225, .string t231, .string t232, .string t233, u224004] 25 (0, 0)) (by (with_reducible repeat (first | refine blk_drewN ?_ _ | refine blk_drew ?_ | refine blk_alloc ?_ _)); exact BK223.out) hb)
                                      have n4_ := Aside0.mk (below_step (by repeat (first | (with_reducible first | exact HB.out | apply below_alloc | apply pw_below_drewN | apply below_drew1 | refine below_set ?_ GE213.out | refine below_set ?_ GE223.out) | exact HB.out)) hb)
                                      clear HO_6
                                      clear HO_224004
                                      clear BK213
                                      clear BK223
                                      clear HB
                                      have HO_6 := n0_
                                      have HO_224004 := n1_
                                      have BK213 := n2_
                                      have BK223 := n3_
                                      have HB := n4_
                                      clear n0_ n1_ n2_ n3_ n4_
                                      (try clear hb)
                                      (try clear hb2)
                                      (try clear hk)
                                      (try clear hi)
                                      refine hK.out _ _ ⟨(blk_cell BK223.out 0).trans rfl, (blk_cell BK223.out 1).trans rfl, (blk_cell BK223.out 2).trans rfl, (blk_cell BK223.out 3).trans rfl, (blk_cell BK223.out 4).trans rfl⟩ (fun hHeld => ?_)
                                      clear hK K
                                      refine norm_ (a' := ?_) ?_ ?_
                                      rotate_left
                                      · show Act.put _ (some 108) _ = _
                                        simp only [Act.put, List.setIfInBounds_toArray, List.set_cons_zero, List.set_cons_succ, i64_w, i32_w]
                                        rfl
                                      refine pure_ (i := 5) (N := some 110) (v := ?_) (a' := ?_) #[true, true, true, true, true, true, false, false, false, false] rfl rfl (any_of HT_.out (by kernel_rfl)) (fun _ _ _ h => h) (Or.inl ⟨by rfl, ?_⟩) ?_ ?_
                                      rotate_left
                                      · intro w'
                                        go_simp
                                        with_reducible rfl
                                      rotate_left
                                      · simp only [Act.put, List.setIfInBounds_toArray, List.set_cons_zero, List.set_cons_succ, i64_w, i32_w]
                                        rfl
                                      refine one_ (i := 6) (N := some 111) #[true, true, true, true, true, true, true, false, false, false] rfl rfl (one_of HT_.out (by kernel_rfl)) (by decide) (fun K hK => ?_)
                                      refine value_ (w1 := ?_) (v := ?_) (by rfl) rfl ?_ ?_
                                      rotate_left 2
                                      · go_simp
                                        constructor
                                        · rfl
                                        · rfl
                                      refine hK.out _ _ ⟨(blk_cell (blk_alloc BK223.out _) 0).trans rfl, (blk_cell (blk_alloc BK223.out _) 1).trans rfl, (blk_cell (blk_alloc BK223.out _) 2).trans rfl, (blk_cell (blk_alloc BK223.out _) 3).trans rfl, (blk_cell (blk_alloc BK223.out _) 4).trans rfl⟩ (fun hHeld => ?_)
                                      clear hK K
                                      refine norm_ (a' := ?_) ?_ ?_
                                      rotate_left
                                      · show Act.put _ (some 111) _ = _
                                        simp only [Act.put, List.setIfInBounds_toArray, List.set_cons_zero, List.set_cons_succ, i64_w, i32_w]
                                        rfl
                                      refine one_ (i := 7) (N := some 112) #[true, true, true, true, true, true, true, true, false, false] rfl rfl (one_of HT_.out (by kernel_rfl)) (by decide) (fun K hK => ?_)
                                      refine Kd.R_append_step k38 (w0 := w) w.heap.size (by rfl) (.tmp 106) (.tmp 111) 23 38 (.agg #[(.string ⟨#[]⟩), (.string ⟨#[]⟩)]) 32 rfl Tryd.underlying23 info38 rfl (by decide) (by omega) u224004 x224004_2 (⟨t243, t240⟩ : S38) [.string t243, .string t240] (fun _ => True) (fun _ => False) rfl rfl ?aP (fun _ hk => hk.elim) ?aF ?aO ?aB ?aS ?aL ?_
                                      (case aP => exact k38_mkM _ _ _ (⟨t243, t240⟩ : S38))
                                      (case aB => exact (by repeat (first | (with_reducible first | exact HB.out | apply below_alloc | apply pw_below_drewN | apply below_drew1 | refine below_set ?_ GE213.out | refine below_set ?_ GE223.out) | exact HB.out)))
                                      (case aF => exact (fun _ _ => trivial))
                                      (case aO => exact (by (with_reducible repeat (first | apply Kd.R_alloc | apply Kd.R_drewN | apply Kd.R_drew)); exact HO_224004.out))
                                      (case aS => exact (below_size (by repeat (first | (with_reducible first | exact HB.out | apply below_alloc | apply pw_below_drewN | apply below_drew1 | refine below_set ?_ GE213.out | refine below_set ?_ GE223.out) | exact HB.out))))
                                      (case aL => have := LMc63.out; omega)
                                      intro v245 w86 ho hb hg hat
                                      rw [← Ny244.out] at ho
                                      have n0_ := Aside0.mk (Kd.R_over' (by (with_reducible repeat (first | apply Kd.R_alloc | apply Kd.R_drewN | apply Kd.R_drew)); exact HO_6.out) (Kd.R_typed (by (with_reducible repeat (first | apply Kd.R_alloc | apply Kd.R_drewN | apply Kd.R_drew)); exact HO_224004.out)) (by decide) hg)
                                      have n1_ := Aside0.mk (blk_grown (g := gb213) (o := .cells #[.string x214000_2, .string x214001_2, .string x214002_2, .string x214003_2, .slice none 0 0] 25 (0, 0)) (by (with_reducible repeat (first | refine blk_drewN ?_ _ | refine blk_drew ?_ | refine blk_alloc ?_ _)); exact BK213.out) hg (Kd.R_ne HO_224004.out BK213.out (by decide)))
                                      have n2_ := Aside0.mk (blk_grown (g := gb223) (o := .cells #[.string t225, .string t231, .string t232, .string t233, u224004] 25 (0, 0)) (by (with_reducible repeat (first | refine blk_drewN ?_ _ | refine blk_drew ?_ | refine blk_alloc ?_ _)); exact BK223.out) hg (Kd.R_ne HO_224004.out BK223.out (by decide)))
                                      have n3_ := Aside0.mk (hb)
                                      have n4_ := Aside0.mk (ho)
                                      clear HO_6
                                      clear BK213
                                      clear BK223
                                      clear HB
                                      clear HO_224004
                                      have HO_6 := n0_
                                      have BK213 := n1_
                                      have BK223 := n2_
                                      have HB := n3_
                                      have HO246 := n4_
                                      clear n0_ n1_ n2_ n3_ n4_
                                      clear ho hb hg hat
                                      obtain ⟨Ao87, co87, eo87⟩ := Kd.R_slice HO246.out
                                      (first | subst eo87 | (injection eo87 with f1_ f2_ f3_; have f4_ := f1_.symm; have f5_ := f3_.symm; clear f1_ f2_ f3_; subst f4_; subst f5_))
                                      refine hK.out _ _ ⟨(blk_cell BK223.out 0).trans rfl, (blk_cell BK223.out 1).trans rfl, (blk_cell BK223.out 2).trans rfl, (blk_cell BK223.out 3).trans rfl, (blk_cell BK223.out 4).trans rfl⟩ (fun hHeld => ?_)
                                      clear hK K
                                      refine norm_ (a' := ?_) ?_ ?_
                                      rotate_left
                                      · show Act.put _ (some 112) _ = _
                                        simp only [Act.put, List.setIfInBounds_toArray, List.set_cons_zero, List.set_cons_succ, i64_w, i32_w]
                                        rfl
                                      refine pure_ (i := 8) (N := some 113) (v := ?_) (a' := ?_) #[true, true, true, true, true, true, true, true, true, false] rfl rfl (any_of HT_.out (by kernel_rfl)) (fun _ _ _ h => h) (Or.inl ⟨by rfl, ?_⟩) ?_ ?_
                                      rotate_left
                                      · intro w'
                                        go_simp
                                        with_reducible rfl
                                      rotate_left
                                      · simp only [Act.put, List.setIfInBounds_toArray, List.set_cons_zero, List.set_cons_succ, i64_w, i32_w]
                                        rfl
                                      refine last_ (i := 9) (N := none) #[true, true, true, true, true, true, true, true, true, true] rfl rfl (one_of HT_.out (by kernel_rfl)) (by decide) (fun K hK => ?_)
                                      have hs88 : w86.cell? ⟨gb223, 4, none⟩ = some (u224004) := (blk_cell BK223.out 4).trans rfl
                                      have hfs88 := blk_frozen BK223.out 4
                                      have hns88_0 := NB213_223.out
                                      have hms88_0 := NB223_213.out
                                      refine skip_ (w1 := ?_) (by rfl) rfl ?_ ?_
                                      rotate_left
                                      · go_simp
                                        rfl
                                      refine hK.out _ _ ?_
                                      clear hK K
                                      refine done_ (done_of HT_.out (by kernel_rfl)) ?_
                                      try go_wp2_with (first | ((with_reducible refine gate_callee (f := 41) rfl ?_); refine goesL_ (some 115) rfl rfl Tryd.func41 (by kernel_rfl) rfl #[.string t237] rfl (by (try simp only [List.map_toArray, List.map_cons, List.map_nil]); first | done | rfl | (simp only [List.length_drop, List.length_take]; rfl)) ?_; (with_reducible refine (head_lower.calls t237 t247 _ A64.out).mono ?_); rintro e w89 ⟨rfl, hb⟩; refine ⟨_, rfl, ?_⟩; have n0_ := Aside0.mk (Kd.R_below (by (with_reducible repeat (first | apply Kd.R_alloc | apply Kd.R_drewN | apply Kd.R_drew)); exact (Kd.R_mono (Kd.R_far (p := ⟨gb223, 4, none⟩) (Kd.R_types HO_6.out BK223.out (by decide)) (fun _ hk => hk.2) (.slice Ao87 y244.length co87)) (fun _ h_ => h_.1))) hb); have n1_ := Aside0.mk (Kd.R_below (by (with_reducible repeat (first | apply Kd.R_alloc | apply Kd.R_drewN | apply Kd.R_drew)); exact (Kd.R_mono (Kd.R_far (p := ⟨gb223, 4, none⟩) (Kd.R_types HO246.out BK223.out (by decide)) (fun _ hk => hk.2) (.slice Ao87 y244.length co87)) (fun _ h_ => h_.1))) hb); have n2_ := Aside0.mk (blk_below (g := gb213) (o := .cells #[.string x214000_2, .string x214001_2, .string x214002_2, .string x214003_2, .slice none 0 0] 25 (0, 0)) (by (with_reducible repeat (first | refine blk_drewN ?_ _ | refine blk_drew ?_ | refine blk_alloc ?_ _)); refine blk_far ?_ NB213_223.out _; (with_reducible repeat (first | refine blk_drewN ?_ _ | refine blk_drew ?_ | refine blk_alloc ?_ _)); exact BK213.out) hb); have n3_ := Aside0.mk (blk_below (g := gb223) (o := .cells #[.string t225, .string t231, .string t232, .string t233, .slice Ao87 y244.length co87] 25 (0, 0)) (by (with_reducible repeat (first | refine blk_drewN ?_ _ | refine blk_drew ?_ | refine blk_alloc ?_ _)); refine blk_put (cs := #[.string t225, .string t231, .string t232, .string t233, u224004]) ?_ 4 _ rfl; (with_reducible repeat (first | refine blk_drewN ?_ _ | refine blk_drew ?_ | refine blk_alloc ?_ _)); exact BK223.out) hb); have n4_ := Aside0.mk (below_step (by repeat (first | (with_reducible first | exact HB.out | apply below_alloc | apply pw_below_drewN | apply below_drew1 | refine below_set ?_ GE213.out | refine below_set ?_ GE223.out) | exact HB.out)) hb); clear HO_6; clear HO246; clear BK213; clear BK223; clear HB; have HO_6 := n0_; have HO246 := n1_; have BK213 := n2_; have BK223 := n3_; have HB := n4_; clear n0_ n1_ n2_ n3_ n4_; (try clear hb); (try clear hb2); (try clear hk); (try clear hi)))
                                      refine wp_goto ?_
                                      refine Or.inr ⟨rfl, ?_⟩
                                      go_step
                                      go_roundg kj52
                                      case measure => have := HJ26.out; have := HK2.out; have := HJ52.out; omega
                                      case rel => exact ⟨(x9_2), (wrap64 (x10_2 + 1)), (x11_2), (x214000_2), (x214001_2), (x214002_2), (x214003_2), (y244), (.slice Ao87 y244.length co87), (by first | rfl | (simp; done) | (simp [*]; done)), (by first | rfl | (simp; done) | (simp [*]; done)), (by first | rfl | (simp; done) | (simp [*]; done)), H', ⟨by have := HJ26.out; have := HK2.out; have := HJ52.out; omega⟩, ⟨by (with_reducible repeat (first | apply Kd.R_alloc | apply Kd.R_drewN | apply Kd.R_drew)); exact HO_6.out⟩, ⟨by (with_reducible repeat (first | apply Kd.R_alloc | apply Kd.R_drewN | apply Kd.R_drew)); exact HO246.out⟩, ⟨by (with_reducible repeat (first | refine blk_drewN ?_ _ | refine blk_drew ?_ | refine blk_alloc ?_ _)); exact BK213.out⟩, ⟨by (with_reducible repeat (first | refine blk_drewN ?_ _ | refine blk_drew ?_ | refine blk_alloc ?_ _)); exact BK223.out⟩, ⟨by repeat (first | (with_reducible first | exact HB.out | apply below_alloc | apply pw_below_drewN | apply below_drew1 | refine below_set ?_ GE213.out | refine below_set ?_ GE223.out) | exact HB.out)⟩⟩
                                  · rw [if_neg c63] at H
                                    exact absurd H (by simp)
                          · rw [if_neg c50] at H
                            exact absurd H (by simp)
                        · rw [if_neg c49] at H
                          have c49b0 : decide (x10_2 < (t220.length : Int)) = false := decide_eq_false c49
                          clear c49
                          by_cases c90 : x9_2 = 1
                          · rw [if_pos c90] at H
                            have c90b0 : (x9_2 == 1) = true := beq_iff_eq.mpr c90
                            have c90b1 : (x9_2 != 1) = false := bne_eq_false_iff_eq.mpr c90
                            clear c90
                            by_cases c91 : (x224004_2.length : Int) > 32
                            · rw [if_pos c91] at H
                              have c91b0 : decide (32 < (x224004_2.length : Int)) = true := decide_eq_true c91
                              have c91b1 : decide (32 < x224004_2.length) = true := decide_eq_true (by omega)
                              clear c91
                              simp only [Option.some.injEq, Prod.mk.injEq] at H
                              obtain ⟨rfl, rfl, rfl, rfl, rfl, rfl, rfl⟩ := H
                              have hnb92 := NB223_213.out
                              have hnc92 := NB213_223.out
                              have hcz93_0 : wr.cell? ⟨gb223, 0, none⟩ = some (.string t225) := (blk_cell BK223.out 0).trans rfl
                              have hcz93_1 : wr.cell? ⟨gb223, 1, none⟩ = some (.string t231) := (blk_cell BK223.out 1).trans rfl
                              have hcz93_2 : wr.cell? ⟨gb223, 2, none⟩ = some (.string t232) := (blk_cell BK223.out 2).trans rfl
                              have hcz93_3 : wr.cell? ⟨gb223, 3, none⟩ = some (.string t233) := (blk_cell BK223.out 3).trans rfl
                              have hcz93_4 : wr.cell? ⟨gb223, 4, none⟩ = some (u224004) := (blk_cell BK223.out 4).trans rfl
                              have hfz93_0 := blk_frozen BK223.out 0
                              have hfz93_1 := blk_frozen BK223.out 1
                              have hfz93_2 := blk_frozen BK223.out 2
                              have hfz93_3 := blk_frozen BK223.out 3
                              have hfz93_4 := blk_frozen BK223.out 4
                              obtain ⟨Ao94, co94, eo94⟩ := Kd.R_slice HO_224004.out
                              subst eo94
                              have hcz95_0 : wr.cell? ⟨gb213, 0, none⟩ = some (.string x214000_2) := (blk_cell BK213.out 0).trans rfl
                              have hcz95_1 : wr.cell? ⟨gb213, 1, none⟩ = some (.string x214001_2) := (blk_cell BK213.out 1).trans rfl
                              have hcz95_2 : wr.cell? ⟨gb213, 2, none⟩ = some (.string x214002_2) := (blk_cell BK213.out 2).trans rfl
                              have hcz95_3 : wr.cell? ⟨gb213, 3, none⟩ = some (.string x214003_2) := (blk_cell BK213.out 3).trans rfl
                              have hcz95_4 : wr.cell? ⟨gb213, 4, none⟩ = some (.slice none 0 0) := (blk_cell BK213.out 4).trans rfl
                              have hfz95_0 := blk_frozen BK213.out 0
                              have hfz95_1 := blk_frozen BK213.out 1
                              have hfz95_2 := blk_frozen BK213.out 2
                              have hfz95_3 := blk_frozen BK213.out 3
                              have hfz95_4 := blk_frozen BK213.out 4
                              go_wp2
                              (try ((with_reducible refine wp_goto ?_); refine Or.inl ⟨rfl, ?_⟩; refine hK0.out _ _ ?_; go_wp2))
                              (try simp only [Exit.two_ret, Exit.noGoto_ret])
                              refine bodyPost_ret (results_ctt rfl _ _ gb213 25 #[.string (⟨#[]⟩ : ByteArray), .string (⟨#[]⟩ : ByteArray), .string (⟨#[]⟩ : ByteArray), .string (⟨#[]⟩ : ByteArray), .slice none 0 0] (0, 0) _ rfl (by (with_reducible repeat (first | refine blk_drewN ?_ _ | refine blk_drew ?_ | refine blk_alloc ?_ _)); refine blk_put (cs := #[.string (⟨#[]⟩ : ByteArray), .string (⟨#[]⟩ : ByteArray), .string (⟨#[]⟩ : ByteArray), .string (⟨#[]⟩ : ByteArray), .slice none 0 0]) ?_ 4 _ rfl; (with_reducible repeat (first | refine blk_drewN ?_ _ | refine blk_drew ?_ | refine blk_alloc ?_ _)); refine blk_put (cs := #[.string (⟨#[]⟩ : ByteArray), .string (⟨#[]⟩ : ByteArray), .string (⟨#[]⟩ : ByteArray), .string x214003_2, .slice none 0 0]) ?_ 3 _ rfl; (with_reducible repeat (first | refine blk_drewN ?_ _ | refine blk_drew ?_ | refine blk_alloc ?_ _)); refine blk_put (cs := #[.string (⟨#[]⟩ : ByteArray), .string (⟨#[]⟩ : ByteArray), .string x214002_2, .string x214003_2, .slice none 0 0]) ?_ 2 _ rfl; (with_reducible repeat (first | refine blk_drewN ?_ _ | refine blk_drew ?_ | refine blk_alloc ?_ _)); refine blk_put (cs := #[.string (⟨#[]⟩ : ByteArray), .string x214001_2, .string x214002_2, .string x214003_2, .slice none 0 0]) ?_ 1 _ rfl; (with_reducible repeat (first | refine blk_drewN ?_ _ | refine blk_drew ?_ | refine blk_alloc ?_ _)); refine blk_put (cs := #[.string x214000_2, .string x214001_2, .string x214002_2, .string x214003_2, .slice none 0 0]) ?_ 0 _ rfl; (with_reducible repeat (first | refine blk_drewN ?_ _ | refine blk_drew ?_ | refine blk_alloc ?_ _)); exact BK213.out) Tryd.underlying25 rfl (by kernel_rfl)) rfl ?_
                              exact ⟨_, by first | rfl | (simp [errW_none, errW_some] <;> rfl) | (simp only [← hji2]; first | rfl | (simp [errW_none, errW_some] <;> rfl)) | (simp [*, errW_none, errW_some] <;> rfl), by first | exact Kd.R_nil _ _ _ _ _ | exact Kd.N_nil _ _ _ _ _ | exact Kd.V_nil _ _ _ _ _ | exact Kd.Q_nil _ _ _ _ _ | exact Kd.S_nil _ _ _ _ _, by repeat (first | (with_reducible first | exact HB.out | apply below_alloc | apply pw_below_drewN | apply below_drew1 | refine below_set ?_ GE213.out | refine below_set ?_ GE223.out) | exact HB.out)⟩
                            · rw [if_neg c91] at H
                              have c91b0 : decide (32 < (x224004_2.length : Int)) = false := decide_eq_false c91
                              have c91b1 : decide (32 < x224004_2.length) = false := decide_eq_false (by omega)
                              clear c91
                              by_cases c96 : t233.toList = ([] : List UInt8)
                              · rw [if_pos c96] at H
                                have c96b0 : (t233.toList == ([] : List UInt8)) = true := beq_iff_eq.mpr c96
                                have c96b1 : (t233.toList != ([] : List UInt8)) = false := bne_eq_false_iff_eq.mpr c96
                                clear c96
                                simp only [Option.some.injEq, Prod.mk.injEq] at H
                                obtain ⟨rfl, rfl, rfl, rfl, rfl, rfl, rfl⟩ := H
                                have hnb97 := NB223_213.out
                                have hnc97 := NB213_223.out
                                have hcz98_0 : wr.cell? ⟨gb223, 0, none⟩ = some (.string t225) := (blk_cell BK223.out 0).trans rfl
                                have hcz98_1 : wr.cell? ⟨gb223, 1, none⟩ = some (.string t231) := (blk_cell BK223.out 1).trans rfl
                                have hcz98_2 : wr.cell? ⟨gb223, 2, none⟩ = some (.string t232) := (blk_cell BK223.out 2).trans rfl
                                have hcz98_3 : wr.cell? ⟨gb223, 3, none⟩ = some (.string t233) := (blk_cell BK223.out 3).trans rfl
                                have hcz98_4 : wr.cell? ⟨gb223, 4, none⟩ = some (u224004) := (blk_cell BK223.out 4).trans rfl
                                have hfz98_0 := blk_frozen BK223.out 0
                                have hfz98_1 := blk_frozen BK223.out 1
                                have hfz98_2 := blk_frozen BK223.out 2
                                have hfz98_3 := blk_frozen BK223.out 3
                                have hfz98_4 := blk_frozen BK223.out 4
                                obtain ⟨Ao99, co99, eo99⟩ := Kd.R_slice HO_224004.out
                                subst eo99
                                have hcz100_0 : wr.cell? ⟨gb213, 0, none⟩ = some (.string x214000_2) := (blk_cell BK213.out 0).trans rfl
                                have hcz100_1 : wr.cell? ⟨gb213, 1, none⟩ = some (.string x214001_2) := (blk_cell BK213.out 1).trans rfl
                                have hcz100_2 : wr.cell? ⟨gb213, 2, none⟩ = some (.string x214002_2) := (blk_cell BK213.out 2).trans rfl
                                have hcz100_3 : wr.cell? ⟨gb213, 3, none⟩ = some (.string x214003_2) := (blk_cell BK213.out 3).trans rfl
                                have hcz100_4 : wr.cell? ⟨gb213, 4, none⟩ = some (.slice none 0 0) := (blk_cell BK213.out 4).trans rfl
                                have hfz100_0 := blk_frozen BK213.out 0
                                have hfz100_1 := blk_frozen BK213.out 1
                                have hfz100_2 := blk_frozen BK213.out 2
                                have hfz100_3 := blk_frozen BK213.out 3
                                have hfz100_4 := blk_frozen BK213.out 4
                                go_wp2
                                (try ((with_reducible refine wp_goto ?_); refine Or.inl ⟨rfl, ?_⟩; refine hK0.out _ _ ?_; go_wp2))
                                (try simp only [Exit.two_ret, Exit.noGoto_ret])
                                refine bodyPost_ret (results_ctt rfl _ _ gb213 25 #[.string t225, .string t231, .string t232, .string x11_2, .slice Ao99 x224004_2.length co99] (0, 0) _ rfl (by (with_reducible repeat (first | refine blk_drewN ?_ _ | refine blk_drew ?_ | refine blk_alloc ?_ _)); refine blk_put (cs := #[.string t225, .string t231, .string t232, .string x11_2, .slice none 0 0]) ?_ 4 _ rfl; (with_reducible repeat (first | refine blk_drewN ?_ _ | refine blk_drew ?_ | refine blk_alloc ?_ _)); refine blk_put (cs := #[.string t225, .string t231, .string t232, .string x214003_2, .slice none 0 0]) ?_ 3 _ rfl; (with_reducible repeat (first | refine blk_drewN ?_ _ | refine blk_drew ?_ | refine blk_alloc ?_ _)); refine blk_put (cs := #[.string t225, .string t231, .string x214002_2, .string x214003_2, .slice none 0 0]) ?_ 2 _ rfl; (with_reducible repeat (first | refine blk_drewN ?_ _ | refine blk_drew ?_ | refine blk_alloc ?_ _)); refine blk_put (cs := #[.string t225, .string x214001_2, .string x214002_2, .string x214003_2, .slice none 0 0]) ?_ 1 _ rfl; (with_reducible repeat (first | refine blk_drewN ?_ _ | refine blk_drew ?_ | refine blk_alloc ?_ _)); refine blk_put (cs := #[.string x214000_2, .string x214001_2, .string x214002_2, .string x214003_2, .slice none 0 0]) ?_ 0 _ rfl; (with_reducible repeat (first | refine blk_drewN ?_ _ | refine blk_drew ?_ | refine blk_alloc ?_ _)); refine blk_far ?_ NB213_223.out _; (with_reducible repeat (first | refine blk_drewN ?_ _ | refine blk_drew ?_ | refine blk_alloc ?_ _)); exact BK213.out) Tryd.underlying25 rfl (by kernel_rfl)) rfl ?_
                                exact ⟨_, by first | rfl | (simp [errW_none, errW_some] <;> rfl) | (simp only [← hji2]; first | rfl | (simp [errW_none, errW_some] <;> rfl)) | (simp [*, errW_none, errW_some] <;> rfl), by (with_reducible repeat (first | apply Kd.R_alloc | apply Kd.R_drewN | apply Kd.R_drew)); exact Kd.R_mono (Kd.R_far (p := ⟨gb213, 4, none⟩) (Kd.R_far (p := ⟨gb213, 3, none⟩) (Kd.R_far (p := ⟨gb213, 2, none⟩) (Kd.R_far (p := ⟨gb213, 1, none⟩) (Kd.R_far (p := ⟨gb213, 0, none⟩) (Kd.R_far (p := ⟨gb223, 3, none⟩) (Kd.R_types (Kd.R_types HO_224004.out BK223.out (by decide)) BK213.out (by decide)) (fun _ hk => hk.1.2) (.string x11_2)) (fun _ hk => hk.2) (.string t225)) (fun _ hk => hk.2) (.string t231)) (fun _ hk => hk.2) (.string t232)) (fun _ hk => hk.2) (.string x11_2)) (fun _ hk => hk.2) (.slice Ao99 x224004_2.length co99)) (fun _ hk => trivial), by repeat (first | (with_reducible first | exact HB.out | apply below_alloc | apply pw_below_drewN | apply below_drew1 | refine below_set ?_ GE213.out | refine below_set ?_ GE223.out) | exact HB.out)⟩
                              · rw [if_neg c96] at H
                                have c96b0 : (t233.toList == ([] : List UInt8)) = false := beq_eq_false_iff_ne.mpr c96
                                have c96b1 : (t233.toList != ([] : List UInt8)) = true := bne_iff_ne.mpr c96
                                simp only [Option.some.injEq, Prod.mk.injEq] at H
                                obtain ⟨rfl, rfl, rfl, rfl, rfl, rfl, rfl⟩ := H
                                have hnb101 := NB223_213.out
                                have hnc101 := NB213_223.out
                                have hcz102_0 : wr.cell? ⟨gb223, 0, none⟩ = some (.string t225) := (blk_cell BK223.out 0).trans rfl
                                have hcz102_1 : wr.cell? ⟨gb223, 1, none⟩ = some (.string t231) := (blk_cell BK223.out 1).trans rfl
                                have hcz102_2 : wr.cell? ⟨gb223, 2, none⟩ = some (.string t232) := (blk_cell BK223.out 2).trans rfl
                                have hcz102_3 : wr.cell? ⟨gb223, 3, none⟩ = some (.string t233) := (blk_cell BK223.out 3).trans rfl
                                have hcz102_4 : wr.cell? ⟨gb223, 4, none⟩ = some (u224004) := (blk_cell BK223.out 4).trans rfl
                                have hfz102_0 := blk_frozen BK223.out 0
                                have hfz102_1 := blk_frozen BK223.out 1
                                have hfz102_2 := blk_frozen BK223.out 2
                                have hfz102_3 := blk_frozen BK223.out 3
                                have hfz102_4 := blk_frozen BK223.out 4
                                obtain ⟨Ao103, co103, eo103⟩ := Kd.R_slice HO_224004.out
                                subst eo103
                                have hcz104_0 : wr.cell? ⟨gb213, 0, none⟩ = some (.string x214000_2) := (blk_cell BK213.out 0).trans rfl
                                have hcz104_1 : wr.cell? ⟨gb213, 1, none⟩ = some (.string x214001_2) := (blk_cell BK213.out 1).trans rfl
                                have hcz104_2 : wr.cell? ⟨gb213, 2, none⟩ = some (.string x214002_2) := (blk_cell BK213.out 2).trans rfl
                                have hcz104_3 : wr.cell? ⟨gb213, 3, none⟩ = some (.string x214003_2) := (blk_cell BK213.out 3).trans rfl
                                have hcz104_4 : wr.cell? ⟨gb213, 4, none⟩ = some (.slice none 0 0) := (blk_cell BK213.out 4).trans rfl
                                have hfz104_0 := blk_frozen BK213.out 0
                                have hfz104_1 := blk_frozen BK213.out 1
                                have hfz104_2 := blk_frozen BK213.out 2
                                have hfz104_3 := blk_frozen BK213.out 3
                                have hfz104_4 := blk_frozen BK213.out 4
                                go_wp2
                                (try ((with_reducible refine wp_goto ?_); refine Or.inl ⟨rfl, ?_⟩; refine hK0.out _ _ ?_; go_wp2))
                                (try simp only [Exit.two_ret, Exit.noGoto_ret])
                                refine bodyPost_ret (results_ctt rfl _ _ gb213 25 #[.string t225, .string t231, .string t232, .string t233, .slice Ao103 x224004_2.length co103] (0, 0) _ rfl (by (with_reducible repeat (first | refine blk_drewN ?_ _ | refine blk_drew ?_ | refine blk_alloc ?_ _)); refine blk_put (cs := #[.string t225, .string t231, .string t232, .string t233, .slice none 0 0]) ?_ 4 _ rfl; (with_reducible repeat (first | refine blk_drewN ?_ _ | refine blk_drew ?_ | refine blk_alloc ?_ _)); refine blk_put (cs := #[.string t225, .string t231, .string t232, .string x214003_2, .slice none 0 0]) ?_ 3 _ rfl; (with_reducible repeat (first | refine blk_drewN ?_ _ | refine blk_drew ?_ | refine blk_alloc ?_ _)); refine blk_put (cs := #[.string t225, .string t231, .string x214002_2, .string x214003_2, .slice none 0 0]) ?_ 2 _ rfl; (with_reducible repeat (first | refine blk_drewN ?_ _ | refine blk_drew ?_ | refine blk_alloc ?_ _)); refine blk_put (cs := #[.string t225, .string x214001_2, .string x214002_2, .string x214003_2, .slice none 0 0]) ?_ 1 _ rfl; (with_reducible repeat (first | refine blk_drewN ?_ _ | refine blk_drew ?_ | refine blk_alloc ?_ _)); refine blk_put (cs := #[.string x214000_2, .string x214001_2, .string x214002_2, .string x214003_2, .slice none 0 0]) ?_ 0 _ rfl; (with_reducible repeat (first | refine blk_drewN ?_ _ | refine blk_drew ?_ | refine blk_alloc ?_ _)); exact BK213.out) Tryd.underlying25 rfl (by kernel_rfl)) rfl ?_
                                exact ⟨_, by first | rfl | (simp [errW_none, errW_some] <;> rfl) | (simp only [← hji2]; first | rfl | (simp [errW_none, errW_some] <;> rfl)) | (simp [*, errW_none, errW_some] <;> rfl), by (with_reducible repeat (first | apply Kd.R_alloc | apply Kd.R_drewN | apply Kd.R_drew)); exact Kd.R_mono (Kd.R_far (p := ⟨gb213, 4, none⟩) (Kd.R_far (p := ⟨gb213, 3, none⟩) (Kd.R_far (p := ⟨gb213, 2, none⟩) (Kd.R_far (p := ⟨gb213, 1, none⟩) (Kd.R_far (p := ⟨gb213, 0, none⟩) (Kd.R_types HO_224004.out BK213.out (by decide)) (fun _ hk => hk.2) (.string t225)) (fun _ hk => hk.2) (.string t231)) (fun _ hk => hk.2) (.string t232)) (fun _ hk => hk.2) (.string t233)) (fun _ hk => hk.2) (.slice Ao103 x224004_2.length co103)) (fun _ hk => trivial), by repeat (first | (with_reducible first | exact HB.out | apply below_alloc | apply pw_below_drewN | apply below_drew1 | refine below_set ?_ GE213.out | refine below_set ?_ GE223.out) | exact HB.out)⟩
                          · rw [if_neg c90] at H
                            have c90b0 : (x9_2 == 1) = false := beq_eq_false_iff_ne.mpr c90
                            have c90b1 : (x9_2 != 1) = true := bne_iff_ne.mpr c90
                            simp only [Option.some.injEq, Prod.mk.injEq] at H
                            obtain ⟨rfl, rfl, rfl, rfl, rfl, rfl, rfl⟩ := H
                            have hnb105 := NB213_223.out
                            have hnc105 := NB223_213.out
                            have hcz106_0 : wr.cell? ⟨gb213, 0, none⟩ = some (.string x214000_2) := (blk_cell BK213.out 0).trans rfl
                            have hcz106_1 : wr.cell? ⟨gb213, 1, none⟩ = some (.string x214001_2) := (blk_cell BK213.out 1).trans rfl
                            have hcz106_2 : wr.cell? ⟨gb213, 2, none⟩ = some (.string x214002_2) := (blk_cell BK213.out 2).trans rfl
                            have hcz106_3 : wr.cell? ⟨gb213, 3, none⟩ = some (.string x214003_2) := (blk_cell BK213.out 3).trans rfl
                            have hcz106_4 : wr.cell? ⟨gb213, 4, none⟩ = some (.slice none 0 0) := (blk_cell BK213.out 4).trans rfl
                            have hfz106_0 := blk_frozen BK213.out 0
                            have hfz106_1 := blk_frozen BK213.out 1
                            have hfz106_2 := blk_frozen BK213.out 2
                            have hfz106_3 := blk_frozen BK213.out 3
                            have hfz106_4 := blk_frozen BK213.out 4
                            go_wp2
                            (try ((with_reducible refine wp_goto ?_); refine Or.inl ⟨rfl, ?_⟩; refine hK0.out _ _ ?_; go_wp2))
                            (try simp only [Exit.two_ret, Exit.noGoto_ret])
                            refine bodyPost_ret (results_ctt rfl _ _ gb213 25 #[.string (⟨#[]⟩ : ByteArray), .string (⟨#[]⟩ : ByteArray), .string (⟨#[]⟩ : ByteArray), .string (⟨#[]⟩ : ByteArray), .slice none 0 0] (0, 0) _ rfl (by (with_reducible repeat (first | refine blk_drewN ?_ _ | refine blk_drew ?_ | refine blk_alloc ?_ _)); refine blk_put (cs := #[.string (⟨#[]⟩ : ByteArray), .string (⟨#[]⟩ : ByteArray), .string (⟨#[]⟩ : ByteArray), .string (⟨#[]⟩ : ByteArray), .slice none 0 0]) ?_ 4 _ rfl; (with_reducible repeat (first | refine blk_drewN ?_ _ | refine blk_drew ?_ | refine blk_alloc ?_ _)); refine blk_put (cs := #[.string (⟨#[]⟩ : ByteArray), .string (⟨#[]⟩ : ByteArray), .string (⟨#[]⟩ : ByteArray), .string x214003_2, .slice none 0 0]) ?_ 3 _ rfl; (with_reducible repeat (first | refine blk_drewN ?_ _ | refine blk_drew ?_ | refine blk_alloc ?_ _)); refine blk_put (cs := #[.string (⟨#[]⟩ : ByteArray), .string (⟨#[]⟩ : ByteArray), .string x214002_2, .string x214003_2, .slice none 0 0]) ?_ 2 _ rfl; (with_reducible repeat (first | refine blk_drewN ?_ _ | refine blk_drew ?_ | refine blk_alloc ?_ _)); refine blk_put (cs := #[.string (⟨#[]⟩ : ByteArray), .string x214001_2, .string x214002_2, .string x214003_2, .slice none 0 0]) ?_ 1 _ rfl; (with_reducible repeat (first | refine blk_drewN ?_ _ | refine blk_drew ?_ | refine blk_alloc ?_ _)); refine blk_put (cs := #[.string x214000_2, .string x214001_2, .string x214002_2, .string x214003_2, .slice none 0 0]) ?_ 0 _ rfl; (with_reducible repeat (first | refine blk_drewN ?_ _ | refine blk_drew ?_ | refine blk_alloc ?_ _)); exact BK213.out) Tryd.underlying25 rfl (by kernel_rfl)) rfl ?_
                            exact ⟨_, by first | rfl | (simp [errW_none, errW_some] <;> rfl) | (simp only [← hji2]; first | rfl | (simp [errW_none, errW_some] <;> rfl)) | (simp [*, errW_none, errW_some] <;> rfl), by first | exact Kd.R_nil _ _ _ _ _ | exact Kd.N_nil _ _ _ _ _ | exact Kd.V_nil _ _ _ _ _ | exact Kd.Q_nil _ _ _ _ _ | exact Kd.S_nil _ _ _ _ _, by repeat (first | (with_reducible first | exact HB.out | apply below_alloc | apply pw_below_drewN | apply below_drew1 | refine below_set ?_ GE213.out | refine below_set ?_ GE223.out) | exact HB.out)⟩
            · rw [if_neg c23] at H
              exact absurd H (by simp)
          · rw [if_neg c21] at H
            exact absurd H (by simp)
        · rw [if_neg c20] at H
          exact absurd H (by simp)
    · rw [if_neg c4] at H
      exact absurd H (by simp)
  · rw [if_neg c3] at H
    exact absurd H (by simp)

end Go.Proofs.YtabkdmfnafeaeaaDoor.S
end
section
namespace Go.Proofs.YtabkdmfnafeaeaaDoor.S
open Go.RowKit Go.Proofs.YtabkdmfnafeaeaaDoorW.PrintWords Go.Proofs.YtabkdmfnafeaeaaDoorW.PrintLast Go.Proofs.YtabkdmfnafeaeaaDoorW.PrintMore
attribute [local go_sem] run_eql_slice_nil
set_option linter.unusedVariables false
set_option linter.unusedSimpArgs false
theorem info67_ : (Tryd.prog.info? 67).map (fun i => (i.zero, i.size, i.bytes)) = some (some (.agg #[(.string ⟨#[]⟩), (.slice none 0 0)]), 2, 40) := by kernel_rfl
def kraw : Kd (ByteArray × (Option Addr × Nat × Nat)) := Kd.pair Kd.string (Kd.scalar (fun x : Option Addr × Nat × Nat => Value.slice x.1 x.2.1 x.2.2) (fun _ => rfl))
set_option maxHeartbeats 2000000 in
set_option maxRecDepth 100000 in
theorem clone_Route (A : Option Addr) (c : Nat) (l : List S93) (w : World) (hr : Kd.C k93 w A l.length l) (hc : l.length ≤ c) (hl : l.length ≤ 2000) :
    Calls Tryd.prog 87 #[.slice A l.length c] w fun e w' => ∃ v, e = .returned v ∧ Kd.R k93 93 w' w.heap.size (fun _ => True) v l ∧ Below w.heap.size w w' := by
  have HB := Aside0.mk (Below.refl w.heap.size w)
  have HR := Aside0.mk hr
  have hu := Tryd.underlying52
  rcases A with _ | ad
  · have h0 : l = [] := by
      rcases l with _ | ⟨x, l⟩
      · rfl
      · obtain ⟨ad, h, _⟩ := hr.2.2 (by simp)
        cases h
    subst h0
    clear hr HR
    go_enter Tryd.func87, Tryd.ntmps87
    go_wp2
    go_ret
    exact ⟨_, rfl, Kd.R_nil _ _ _ _ _, HB.out⟩
  · clear hr
    go_enter Tryd.func87, Tryd.ntmps87
    go_wp2_with (first | ((with_reducible refine gate_dst (N := 5) rfl ?_); refine Kd.R_lit k93 w.heap.size 93 ?hg (N := 5) ?hd (xs := ([] : List S93)) (inner := []) (ok := fun _ => True) (okp := fun _ => True) ?hr ?hp (fun _ hk => hk) trivial HB.out (below_size HB.out) (by simp) ?_; (case hd => rfl); (case hg => rfl); (case hr => first | (go_simp; done) | (go_simp; rfl)); (case hp => exact (Reps.none _ _)); intro v1 w1 ho hb hg_ hnew_; have HO := Aside0.mk ho; have n0_ := Aside0.mk hb; clear HB; have HB := n0_; clear ho hb hg_ hnew_ n0_) | ((with_reducible refine gate_dst (N := 7) rfl ?_); refine Kd.R_append_rows k93 (w0 := w) w.heap.size rfl (.tmp 5) (.tmp 6) 52 93 (.agg #[(.string ⟨#[]⟩), (.string ⟨#[]⟩), (.string ⟨#[]⟩)]) 48 rfl Tryd.underlying52 info93 rfl (by decide) (by omega) _ _ l _ _ _ (fun _ => True) (fun _ => False) rfl rfl HO.out (Kd.C_below HR.out HB.out) (fun _ _ h => h) (fun _ h => h.elim) (fun _ _ => trivial) HB.out (below_size HB.out) ?aL ?_; (case aL => simp only [List.length_nil]; omega); intro v2 w2 ho hb hg hat; have HO2 := Aside0.mk ho; have HB2 := Aside0.mk hb; clear ho hb hg hat HB HO; have HB := HB2; clear HB2))
    go_ret
    exact ⟨_, rfl, HO2.out, HB.out⟩
set_option maxHeartbeats 2000000 in
set_option maxRecDepth 100000 in
theorem clone_Target (A : Option Addr) (c : Nat) (l : List S69) (w : World) (hr : Kd.C k69 w A l.length l) (hc : l.length ≤ c) (hl : l.length ≤ 2000) :
    Calls Tryd.prog 89 #[.slice A l.length c] w fun e w' => ∃ v, e = .returned v ∧ Kd.R k69 69 w' w.heap.size (fun _ => True) v l ∧ Below w.heap.size w w' := by
  have HB := Aside0.mk (Below.refl w.heap.size w)
  have HR := Aside0.mk hr
  have hu := Tryd.underlying65
  rcases A with _ | ad
  · have h0 : l = [] := by
      rcases l with _ | ⟨x, l⟩
      · rfl
      · obtain ⟨ad, h, _⟩ := hr.2.2 (by simp)
        cases h
    subst h0
    clear hr HR
    go_enter Tryd.func89, Tryd.ntmps89
    go_wp2
    go_ret
    exact ⟨_, rfl, Kd.R_nil _ _ _ _ _, HB.out⟩
  · clear hr
    go_enter Tryd.func89, Tryd.ntmps89
    go_wp2_with (first | ((with_reducible refine gate_dst (N := 5) rfl ?_); refine Kd.R_lit k69 w.heap.size 69 ?hg (N := 5) ?hd (xs := ([] : List S69)) (inner := []) (ok := fun _ => True) (okp := fun _ => True) ?hr ?hp (fun _ hk => hk) trivial HB.out (below_size HB.out) (by simp) ?_; (case hd => rfl); (case hg => rfl); (case hr => first | (go_simp; done) | (go_simp; rfl)); (case hp => exact (Reps.none _ _)); intro v1 w1 ho hb hg_ hnew_; have HO := Aside0.mk ho; have n0_ := Aside0.mk hb; clear HB; have HB := n0_; clear ho hb hg_ hnew_ n0_) | ((with_reducible refine gate_dst (N := 7) rfl ?_); refine Kd.R_append_rows k69 (w0 := w) w.heap.size rfl (.tmp 5) (.tmp 6) 65 69 (.agg #[(.string ⟨#[]⟩), (.float .f64 0)]) 24 rfl Tryd.underlying65 info69 rfl (by decide) (by omega) _ _ l _ _ _ (fun _ => True) (fun _ => False) rfl rfl HO.out (Kd.C_below HR.out HB.out) (fun _ _ h => h) (fun _ h => h.elim) (fun _ _ => trivial) HB.out (below_size HB.out) ?aL ?_; (case aL => simp only [List.length_nil]; omega); intro v2 w2 ho hb hg hat; have HO2 := Aside0.mk ho; have HB2 := Aside0.mk hb; clear ho hb hg hat HB HO; have HB := HB2; clear HB2))
    go_ret
    exact ⟨_, rfl, HO2.out, HB.out⟩
set_option maxHeartbeats 2000000 in
set_option maxRecDepth 100000 in
theorem clone_Pool (A : Option Addr) (c : Nat) (l : List (ByteArray × (Option Addr × Nat × Nat))) (w : World) (hr : Kd.C kraw w A l.length l) (hc : l.length ≤ c) (hl : l.length ≤ 2000) :
    Calls Tryd.prog 88 #[.slice A l.length c] w fun e w' => ∃ v, e = .returned v ∧ Kd.R kraw 67 w' w.heap.size (fun _ => True) v l ∧ Below w.heap.size w w' := by
  have HB := Aside0.mk (Below.refl w.heap.size w)
  have HR := Aside0.mk hr
  have hu := Tryd.underlying53
  rcases A with _ | ad
  · have h0 : l = [] := by
      rcases l with _ | ⟨x, l⟩
      · rfl
      · obtain ⟨ad, h, _⟩ := hr.2.2 (by simp)
        cases h
    subst h0
    clear hr HR
    go_enter Tryd.func88, Tryd.ntmps88
    go_wp2
    go_ret
    exact ⟨_, rfl, Kd.R_nil _ _ _ _ _, HB.out⟩
  · clear hr
    go_enter Tryd.func88, Tryd.ntmps88
    go_wp2_with (first | ((with_reducible refine gate_dst (N := 5) rfl ?_); refine Kd.R_lit kraw w.heap.size 67 ?hg (N := 5) ?hd (xs := ([] : List (ByteArray × (Option Addr × Nat × Nat)))) (inner := []) (ok := fun _ => True) (okp := fun _ => True) ?hr ?hp (fun _ hk => hk) trivial HB.out (below_size HB.out) (by simp) ?_; (case hd => rfl); (case hg => rfl); (case hr => first | (go_simp; done) | (go_simp; rfl)); (case hp => exact (Reps.none _ _)); intro v1 w1 ho hb hg_ hnew_; have HO := Aside0.mk ho; have n0_ := Aside0.mk hb; clear HB; have HB := n0_; clear ho hb hg_ hnew_ n0_) | ((with_reducible refine gate_dst (N := 7) rfl ?_); refine Kd.R_append_rows kraw (w0 := w) w.heap.size rfl (.tmp 5) (.tmp 6) 53 67 (.agg #[(.string ⟨#[]⟩), (.slice none 0 0)]) 40 rfl Tryd.underlying53 info67_ rfl (by decide) (by omega) _ _ l _ _ _ (fun _ => True) (fun _ => False) rfl rfl HO.out (Kd.C_below HR.out HB.out) (fun _ _ h => h) (fun _ h => h.elim) (fun _ _ => trivial) HB.out (below_size HB.out) ?aL ?_; (case aL => simp only [List.length_nil]; omega); intro v2 w2 ho hb hg hat; have HO2 := Aside0.mk ho; have HB2 := Aside0.mk hb; clear ho hb hg hat HB HO; have HB := HB2; clear HB2))
    go_ret
    exact ⟨_, rfl, HO2.out, HB.out⟩
end Go.Proofs.YtabkdmfnafeaeaaDoor.S
end
section
namespace Go.Proofs.YtabkdmfnafeaeaaDoor.S
open Go.RowKit Go.Proofs.YtabkdmfnafeaeaaDoorW.PrintWords Go.Proofs.YtabkdmfnafeaeaaDoorW.PrintLast Go.Proofs.YtabkdmfnafeaeaaDoorW.PrintMore
set_option linter.unusedVariables false
set_option linter.unusedSimpArgs false
def PlaneAt (W : World) (g : Nat) (f0 : Int) (f1 : List S93) (f2 : List S67) : Prop :=
  ∃ A1 c1 A2 c2, W.heap[g]? = some (.cells #[.int .i64 f0, .slice A1 f1.length c1, .slice A2 f2.length c2] 97 (0, 0)) ∧ Kd.C k93 W A1 f1.length f1 ∧ f1.length ≤ c1 ∧ Kd.C k67 W A2 f2.length f2 ∧ f2.length ≤ c2
theorem PlaneAt.below {W W1 : World} {g : Nat} {f0 : Int} {f1 : List S93} {f2 : List S67} (h : PlaneAt W g f0 f1 f2) (hb : Below W.heap.size W W1) : PlaneAt W1 g f0 f1 f2 := by
  obtain ⟨A1, c1, A2, c2, h0, h1, h2, h3, h4⟩ := h
  exact ⟨A1, c1, A2, c2, blk_below h0 hb, Kd.C_below h1 hb, h2, Kd.C_below h3 hb, h4⟩
set_option maxHeartbeats 2000000 in
theorem new_ok (w : World) : Calls Tryd.prog 28 #[] w fun e w' => ∃ g, e = .returned (.pointer (some ⟨g, 0, none⟩)) ∧ w.heap.size ≤ g ∧ PlaneAt w' g 0 [] [] ∧ Below w.heap.size w w' :=
  (plane_New.calls 0 [] [] w w (Below.refl _ _) rfl).mono fun e w' h => by
    obtain ⟨g, h1, ⟨A1, c1, A2, c2, hb, hg, hr1, hr2⟩, h3, h4⟩ := h
    exact ⟨g, h1, hg, ⟨A1, c1, A2, c2, hb, Kd.C_below hr1 h3, Nat.zero_le _, Kd.C_below hr2 h3, Nat.zero_le _⟩, h3⟩
set_option maxHeartbeats 2000000 in
set_option maxRecDepth 100000 in
theorem apply_stale {g : Nat} {f0 : Int} {f1 : List S93} {f2 : List S67} {w : World} (h : PlaneAt w g f0 f1 f2) (a : Int) (v1 v2 : Value) (hv1 : v1.oneCell' = true) (hv2 : v2.oneCell' = true) (ha : a ≤ f0) :
    Calls Tryd.prog 29 #[.pointer (some ⟨g, 0, none⟩), .agg #[.int .i64 a, v1, v2]] w fun e w' => e = .returned (.int .i64 12) ∧ Below w.heap.size w w' := by
  obtain ⟨A1, c1, A2, c2, h0, h1, h2, h3, h4⟩ := h
  have HB := Aside0.mk (Below.refl w.heap.size w)
  have H0 := Aside0.mk h0
  have hu97 := Tryd.underlying97
  have hu55 := Tryd.underlying55
  clear h0 h1 h3
  go_enter Tryd.func29, Tryd.ntmps29
  go_wp2_with (first | ((with_reducible refine gate_dst (N := 3) rfl ?_); refine box_event ?hg (N := 3) ?hd (cs := #[.int .i64 a, v1, v2]) (t := 55) ?hr ?_; (case hd => rfl); (case hg => rfl); (case hr => first | (go_simp; done) | (go_simp; rfl)); intro gb hg w1 hbox hb; have n0_ := Aside0.mk (below_step HB.out hb); have q0 := cellS97_0 (blk_below H0.out hb); have c0 : w1.cell? ⟨gb, 0, none⟩ = some (.int .i64 a) := (blk_cell hbox 0).trans rfl; clear HB; have HB := n0_; clear hb hbox hg n0_))
  go_still (by rfl)
  go_wp2
  go_ret
  exact ⟨rfl, below_drew1 HB.out⟩
end Go.Proofs.YtabkdmfnafeaeaaDoor.S
end
section
namespace Go.Proofs.YtabkdmfnafeaeaaDoor.S
open Go.RowKit Go.Proofs.YtabkdmfnafeaeaaDoorW.PrintWords Go.Proofs.YtabkdmfnafeaeaaDoorW.PrintLast Go.Proofs.YtabkdmfnafeaeaaDoorW.PrintMore
set_option linter.unusedVariables false
set_option linter.unusedSimpArgs false
def RawOf (w : World) (x : S67) (y : ByteArray × (Option Addr × Nat × Nat)) : Prop :=
  y.1 = x.f0 ∧ y.2.2.1 = x.f1.length ∧ x.f1.length ≤ y.2.2.2 ∧ Kd.C k69 w y.2.1 x.f1.length x.f1
theorem RawOf.below {w w1 : World} {x : S67} {y : ByteArray × (Option Addr × Nat × Nat)} (h : RawOf w x y) (hb : Below w.heap.size w w1) : RawOf w1 x y := ⟨h.1, h.2.1, h.2.2.1, Kd.C_below h.2.2.2 hb⟩
theorem raw_one {w : World} {x : S67} {c : List Value} (h : k67.K w x c) : ∃ y, kraw.K w y c ∧ RawOf w x y := by
  obtain ⟨c1, c2, rfl, rfl, A, cap, rfl, hl, hr⟩ := h
  exact ⟨(x.f0, (A, x.f1.length, cap)), ⟨_, _, rfl, rfl, rfl⟩, rfl, rfl, hl, hr⟩
theorem raw_back {w : World} {x : S67} {y : ByteArray × (Option Addr × Nat × Nat)} {c : List Value} (h : kraw.K w y c) (hr : RawOf w x y) : k67.K w x c := by
  obtain ⟨c1, c2, rfl, rfl, rfl⟩ := h
  obtain ⟨h1, h2, h3, h4⟩ := hr
  refine ⟨_, _, rfl, ?_, y.2.1, y.2.2.2, ?_, h3, h4⟩
  · rw [h1]; rfl
  · show [Value.slice y.2.1 y.2.2.1 y.2.2.2] = [Value.slice y.2.1 x.f1.length y.2.2.2]
    rw [h2]
theorem raw_of {w : World} {A : Option Addr} {l : List S67} (h : Kd.C k67 w A l.length l) :
    ∃ rl : List (ByteArray × (Option Addr × Nat × Nat)), rl.length = l.length ∧ Kd.C kraw w A rl.length rl ∧ ∀ (j : Nat) (x : S67) (y : ByteArray × (Option Addr × Nat × Nat)), l[j]? = some x → rl[j]? = some y → RawOf w x y := by
  obtain ⟨hl, hm, hr⟩ := h
  rcases Nat.eq_zero_or_pos l.length with h0 | h0
  · have : l = [] := List.length_eq_zero_iff.1 h0
    subst this
    exact ⟨[], rfl, ⟨rfl, by simp, fun h => absurd h (Nat.lt_irrefl 0)⟩, fun j x y hx _ => by simp at hx⟩
  · obtain ⟨ad, hA, hc⟩ := hr h0
    have H : ∀ i : Fin l.length, ∃ y, ∃ c : List Value, c.length = 2 ∧ kraw.K w y c ∧ RawOf w l[i] y ∧ ∀ k u, c[k]? = some u → w.cell? (ad.add (i.1 * 2 + k)) = some u := by
      intro i
      obtain ⟨c, h1, h2, h3⟩ := hc i.1 l[i] (List.getElem?_eq_getElem i.2)
      obtain ⟨y, h4, h5⟩ := raw_one h2
      exact ⟨y, c, h1, h4, h5, h3⟩
    obtain ⟨f, hf⟩ := Classical.axiomOfChoice H
    refine ⟨List.ofFn f, List.length_ofFn, ⟨rfl, by rw [List.length_ofFn]; exact hm, fun _ => ⟨ad, hA, fun j p hp => ?_⟩⟩, fun j x y hx hy => ?_⟩
    · have hj : j < (List.ofFn f).length := (List.getElem?_eq_some_iff.1 hp).1
      have hj2 : j < l.length := by rwa [List.length_ofFn] at hj
      rw [List.getElem?_eq_getElem hj, List.getElem_ofFn] at hp
      obtain rfl := Option.some.inj hp
      obtain ⟨c, h1, h2, h3, h4⟩ := hf ⟨j, hj2⟩
      exact ⟨c, h1, h2, h4⟩
    · have hj : j < (List.ofFn f).length := (List.getElem?_eq_some_iff.1 hy).1
      have hj2 : j < l.length := by rwa [List.length_ofFn] at hj
      rw [List.getElem?_eq_getElem hj, List.getElem_ofFn] at hy
      rw [List.getElem?_eq_getElem hj2] at hx
      obtain rfl := Option.some.inj hy
      obtain rfl := Option.some.inj hx
      obtain ⟨c, h1, h2, h3, h4⟩ := hf ⟨j, hj2⟩
      exact h3
theorem raw_row {w : World} {A : Option Addr} {l : List S67} {rl : List (ByteArray × (Option Addr × Nat × Nat))} (hl : rl.length = l.length) (h : Kd.C kraw w A rl.length rl) (hR : ∀ (j : Nat) (x : S67) (y : ByteArray × (Option Addr × Nat × Nat)), l[j]? = some x → rl[j]? = some y → RawOf w x y) : Kd.C k67 w A l.length l := by
  obtain ⟨h1, h2, h3⟩ := h
  refine ⟨rfl, by omega, fun h0 => ?_⟩
  obtain ⟨ad, hA, hc⟩ := h3 (by omega)
  refine ⟨ad, hA, fun j x hx => ?_⟩
  have hj : j < rl.length := by have := (List.getElem?_eq_some_iff.1 hx).1; omega
  obtain ⟨c, g1, g2, g3⟩ := hc j rl[j] (List.getElem?_eq_getElem hj)
  exact ⟨c, g1, raw_back g2 (hR j x _ hx (List.getElem?_eq_getElem hj)), g3⟩
def RawBlk (w : World) (g : Nat) (rl : List (ByteArray × (Option Addr × Nat × Nat))) : Prop :=
  ∃ cur : Array Value, w.heap[g]? = some (.cells cur 67 (0, 0)) ∧ ∀ (j : Nat) (y : ByteArray × (Option Addr × Nat × Nat)), rl[j]? = some y → cur[j * 2]? = some (.string y.1) ∧ cur[j * 2 + 1]? = some (.slice y.2.1 y.2.2.1 y.2.2.2)
theorem rawblk_of {w : World} {base : Nat} {v : Value} {rl : List (ByteArray × (Option Addr × Nat × Nat))} (h : Kd.R kraw 67 w base (fun _ => True) v rl) : rl = [] ∨ ∃ g cap, v = .slice (some ⟨g, 0, none⟩) rl.length cap ∧ base ≤ g ∧ RawBlk w g rl := by
  obtain ⟨_, inner, ⟨hlen, ho⟩, hrep⟩ := h
  rcases ho with ⟨rfl, h0⟩ | ⟨g, cap, cur, rfl, hg, hb, hn, hm, hs, ht⟩
  · exact .inl (List.length_eq_zero_iff.1 h0)
  · refine .inr ⟨g, cap, rfl, hg, cur, hb, fun j y hj => ?_⟩
    have hjl : j < rl.length := (List.getElem?_eq_some_iff.1 hj).1
    obtain ⟨c0, c1, hc, h1, h2⟩ := hrep.2 j y hj
    change (inner.drop (j * 2)).take 2 = c0 ++ c1 at hc
    change cur.toList.take (rl.length * 2) = inner at ht
    have e : ∀ k, k < 2 → cur[j * 2 + k]? = ((inner.drop (j * 2)).take 2)[k]? := by
      intro k hk
      rw [List.getElem?_take_of_lt hk, List.getElem?_drop, ← ht, List.getElem?_take_of_lt (by omega)]
      simp
    have e0 := e 0 (by omega)
    have e1 := e 1 (by omega)
    change c0 = [.string y.1] at h1
    change c1 = [.slice y.2.1 y.2.2.1 y.2.2.2] at h2
    rw [hc, h1, h2] at e0 e1
    exact ⟨e0, e1⟩
theorem RawBlk.cell {w : World} {g : Nat} {rl : List (ByteArray × (Option Addr × Nat × Nat))} (h : RawBlk w g rl) {j : Nat} {y : ByteArray × (Option Addr × Nat × Nat)} (hj : rl[j]? = some y) :
    w.cell? ⟨g, j * 2 + 1, none⟩ = some (.slice y.2.1 y.2.2.1 y.2.2.2) ∧ w.frozen? ⟨g, j * 2 + 1, none⟩ = false := by
  obtain ⟨cur, hb, hc⟩ := h
  exact ⟨(blk_cell hb _).trans (hc j y hj).2, blk_frozen hb _⟩
theorem RawBlk.keep {w w1 : World} {g : Nat} {rl : List (ByteArray × (Option Addr × Nat × Nat))} (h : RawBlk w g rl) (he : w1.heap[g]? = w.heap[g]?) : RawBlk w1 g rl := by
  obtain ⟨cur, hb, hc⟩ := h
  exact ⟨cur, he.trans hb, hc⟩
theorem RawBlk.below {w w1 : World} {g : Nat} {rl : List (ByteArray × (Option Addr × Nat × Nat))} (h : RawBlk w g rl) (hb : Below w.heap.size w w1) : RawBlk w1 g rl := by
  obtain ⟨cur, hb0, hc⟩ := h
  exact ⟨cur, blk_below hb0 hb, hc⟩
theorem RawBlk.set {w : World} {g : Nat} {rl : List (ByteArray × (Option Addr × Nat × Nat))} (h : RawBlk w g rl) (i : Nat) {y : ByteArray × (Option Addr × Nat × Nat)} (hi : rl[i]? = some y) (A : Option Addr) (n c : Nat) :
    RawBlk (w.setCell ⟨g, i * 2 + 1, none⟩ (.slice A n c)) g (rl.set i (y.1, (A, n, c))) := by
  obtain ⟨cur, hb, hc⟩ := h
  refine ⟨_, blk_set hb _ _, fun j z hj => ?_⟩
  have hil : i < rl.length := (List.getElem?_eq_some_iff.1 hi).1
  have hin : i * 2 + 1 < cur.size := by
    have := (hc i y hi).2
    exact (Array.getElem?_eq_some_iff.1 this).1
  rw [List.getElem?_set] at hj
  by_cases hij : i = j
  · subst hij
    rw [if_pos rfl, if_pos hil] at hj
    obtain rfl := Option.some.inj hj
    refine ⟨?_, ?_⟩
    · rw [Array.getElem?_setIfInBounds_ne (by omega)]
      exact (hc i y hi).1
    · rw [Array.getElem?_setIfInBounds_self_of_lt hin]
  · rw [if_neg hij] at hj
    rw [Array.getElem?_setIfInBounds_ne (by omega), Array.getElem?_setIfInBounds_ne (by omega)]
    exact hc j z hj
theorem RawBlk.row {w : World} {g : Nat} {rl : List (ByteArray × (Option Addr × Nat × Nat))} (h : RawBlk w g rl) (hm : rl.length ≤ 9223372036854775807) : Kd.C kraw w (some ⟨g, 0, none⟩) rl.length rl := by
  obtain ⟨cur, hb, hc⟩ := h
  refine ⟨rfl, hm, fun _ => ⟨⟨g, 0, none⟩, rfl, fun j y hj => ⟨[.string y.1, .slice y.2.1 y.2.2.1 y.2.2.2], rfl, ⟨[.string y.1], [.slice y.2.1 y.2.2.1 y.2.2.2], rfl, rfl, rfl⟩, fun k u hk => ?_⟩⟩⟩
  change w.cell? (Addr.add ⟨g, 0, none⟩ (j * 2 + k)) = some u
  rw [add_plain, blk_cell hb]
  obtain ⟨h1, h2⟩ := hc j y hj
  rcases k with _ | _ | k
  · exact h1.trans (by simpa using hk)
  · exact h2.trans (by simpa using hk)
  · simp at hk
def RawOwn (w : World) (base : Nat) (x : S67) (y : ByteArray × (Option Addr × Nat × Nat)) : Prop :=
  y.1 = x.f0 ∧ y.2.2.1 = x.f1.length ∧ x.f1.length ≤ y.2.2.2 ∧ Kd.R k69 69 w base (fun _ => True) (.slice y.2.1 x.f1.length y.2.2.2) x.f1
theorem RawOwn.below {w w1 : World} {base : Nat} {x : S67} {y : ByteArray × (Option Addr × Nat × Nat)} (h : RawOwn w base x y) (hb : Below w.heap.size w w1) : RawOwn w1 base x y := ⟨h.1, h.2.1, h.2.2.1, Kd.R_below h.2.2.2 hb⟩
theorem RawOwn.set {w : World} {base : Nat} {x : S67} {y : ByteArray × (Option Addr × Nat × Nat)} (h : RawOwn w base x y) {g : Nat} {rl : List (ByteArray × (Option Addr × Nat × Nat))} (hb : RawBlk w g rl) (j : Nat) (u : Value) : RawOwn (w.setCell ⟨g, j, none⟩ u) base x y := by
  obtain ⟨cur, hb0, _⟩ := hb
  exact ⟨h.1, h.2.1, h.2.2.1, Kd.R_set h.2.2.2 hb0 (by decide) j u⟩
theorem RawOwn.of {w : World} {base : Nat} {x : S67} {y : ByteArray × (Option Addr × Nat × Nat)} (h : RawOwn w base x y) : RawOf w x y := by
  obtain ⟨h1, h2, h3, h4⟩ := h
  obtain ⟨A, c, he, hl, hr⟩ := Kd.R_reads h4
  injection he with e1 e2 e3
  exact ⟨h1, h2, h3, by rw [e1]; exact hr⟩
theorem RawOwn.setT {w : World} {base : Nat} {x : S67} {y : ByteArray × (Option Addr × Nat × Nat)} (h : RawOwn w base x y) {g t : Nat} {cells : Array Value} (hb : w.heap[g]? = some (.cells cells t (0, 0))) (ht : ∀ q, q ∈ 69 :: k69.E → q ≠ t) (j : Nat) (u : Value) : RawOwn (w.setCell ⟨g, j, none⟩ u) base x y :=
  ⟨h.1, h.2.1, h.2.2.1, Kd.R_set h.2.2.2 hb ht j u⟩
theorem RawBlk.far {w : World} {g : Nat} {rl : List (ByteArray × (Option Addr × Nat × Nat))} (h : RawBlk w g rl) {q : Nat} (hne : g ≠ q) (j : Nat) (u : Value) : RawBlk (w.setCell ⟨q, j, none⟩ u) g rl := h.keep (Below.heap_setCell w ⟨q, j, none⟩ u g hne)
def PoolsOwn (w : World) (base : Nat) (A : Option Addr) (c : Nat) (l : List S67) : Prop :=
  l.length ≤ c ∧ l.length ≤ 9223372036854775807 ∧ (l = [] ∨ ∃ (bg : Nat) (rl : List (ByteArray × (Option Addr × Nat × Nat))), A = some ⟨bg, 0, none⟩ ∧ base ≤ bg ∧ rl.length = l.length ∧ RawBlk w bg rl ∧ ∀ (j : Nat) (x : S67) (y : (ByteArray × (Option Addr × Nat × Nat))), l[j]? = some x → rl[j]? = some y → RawOwn w base x y)
theorem PoolsOwn.C {w : World} {base : Nat} {A : Option Addr} {c : Nat} {l : List S67} (h : PoolsOwn w base A c l) : Kd.C k67 w A l.length l := by
  obtain ⟨_, hm, rfl | ⟨bg, rl, rfl, _, hl, hb, ho⟩⟩ := h
  · exact ⟨rfl, by simp, fun h => absurd h (Nat.lt_irrefl 0)⟩
  · exact raw_row hl (hb.row (by omega)) (fun j x y hx hy => (ho j x y hx hy).of)
theorem PoolsOwn.below {w w1 : World} {base : Nat} {A : Option Addr} {c : Nat} {l : List S67} (h : PoolsOwn w base A c l) (hw : Below w.heap.size w w1) : PoolsOwn w1 base A c l := by
  obtain ⟨h1, h2, h3 | ⟨bg, rl, h4, h5, h6, h7, h8⟩⟩ := h
  · exact ⟨h1, h2, .inl h3⟩
  · exact ⟨h1, h2, .inr ⟨bg, rl, h4, h5, h6, h7.below hw, fun j x y hx hy => (h8 j x y hx hy).below hw⟩⟩
theorem PoolsOwn.setT {w : World} {base : Nat} {A : Option Addr} {c : Nat} {l : List S67} (h : PoolsOwn w base A c l) {g t : Nat} {cells : Array Value} (hb : w.heap[g]? = some (.cells cells t (0, 0))) (ht : ∀ q, q ∈ 69 :: k69.E → q ≠ t) (ht2 : 67 ≠ t) (j : Nat) (u : Value) : PoolsOwn (w.setCell ⟨g, j, none⟩ u) base A c l := by
  obtain ⟨h1, h2, h3 | ⟨bg, rl, h4, h5, h6, h7, h8⟩⟩ := h
  · exact ⟨h1, h2, .inl h3⟩
  · have hne : bg ≠ g := by
      obtain ⟨cur, hc, _⟩ := h7
      exact blk_ne hc hb ht2
    exact ⟨h1, h2, .inr ⟨bg, rl, h4, h5, h6, h7.far hne j u, fun j' x y hx hy => (h8 j' x y hx hy).setT hb ht j u⟩⟩
theorem PoolsOwn.lower {w : World} {base base' : Nat} {A : Option Addr} {c : Nat} {l : List S67} (h : PoolsOwn w base A c l) (hb : base' ≤ base) : PoolsOwn w base' A c l := by
  obtain ⟨h1, h2, h3 | ⟨bg, rl, h4, h5, h6, h7, h8⟩⟩ := h
  · exact ⟨h1, h2, .inl h3⟩
  · exact ⟨h1, h2, .inr ⟨bg, rl, h4, Nat.le_trans hb h5, h6, h7, fun j x y hx hy => ⟨(h8 j x y hx hy).1, (h8 j x y hx hy).2.1, (h8 j x y hx hy).2.2.1, Kd.R_lower (h8 j x y hx hy).2.2.2 hb⟩⟩⟩
end Go.Proofs.YtabkdmfnafeaeaaDoor.S
end
