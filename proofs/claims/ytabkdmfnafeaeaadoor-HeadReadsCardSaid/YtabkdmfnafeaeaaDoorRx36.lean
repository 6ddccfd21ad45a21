-- Laid by lay.py, a program of this session's, out of the translation (the kit's printer with additions of ours). Lean checks it.
import Derived.Test.YtabkdmfnafeaeaaDoorRx0
import Derived.Test.YtabkdmfnafeaeaaDoorRm1
import Derived.Test.YtabkdmfnafeaeaaDoorRx33
namespace Go.Proofs.YtabkdmfnafeaeaaDoor.R
open Go.RowKit Go.Proofs.YtabkdmfnafeaeaaDoorW.PrintWords Go.Proofs.YtabkdmfnafeaeaaDoorW.PrintLast Go.Proofs.YtabkdmfnafeaeaaDoorW.PrintMore
attribute [local go_sem] max2_int min2_int max_two min_two max_three min_three max_four min_four   -- for this text's walks alone
attribute [local go_sem] fbin_eql fbin_neq fbin_lss fbin_leq fbin_gtr fbin_geq frun_add frun_sub frun_mul frun_quo frun_store fun_neg fcv_int fcv_same fb92 fb116
set_option linter.unusedVariables false
set_option linter.unusedSimpArgs false

/-! ### tollgateref09_Parse: function 15 -/
mutual
def tollgateref09_Parse.l0 : Nat → List Int → Int → Int → Option (ByteArray × ByteArray × ByteArray × ByteArray × (List (S38)) × Int × Int)
 | 0, _, _, _ => none
 | k + 1, x0, x5, x6 => if (wrap64 (x6 + 4)) ≤ (x0.length : Int) then (if (wrap64 (x6 + 4)) ≤ 2048 then (tollgateref09_Parse.j1 k x0 x5 x6 (decide (x5 < 0))) else (tollgateref09_Parse.j1 k x0 x5 x6 false)) else (tollgateref09_Parse.j1 k x0 x5 x6 false)
def tollgateref09_Parse.j1 : Nat → List Int → Int → Int → Bool → Option (ByteArray × ByteArray × ByteArray × ByteArray × (List (S38)) × Int × Int)
 | 0, _, _, _, _ => none
 | k + 1, x0, x5, x6, x29 => if x29 = true then (if 0 ≤ x6 then (if x6 < (x0.length : Int) then (if (rd x0 x6) = 13 then (if 0 ≤ (wrap64 (x6 + 1)) then (if (wrap64 (x6 + 1)) < (x0.length : Int) then (if (rd x0 (wrap64 (x6 + 1))) = 10 then (if 0 ≤ (wrap64 (x6 + 2)) then (if (wrap64 (x6 + 2)) < (x0.length : Int) then (if (rd x0 (wrap64 (x6 + 2))) = 13 then (if 0 ≤ (wrap64 (x6 + 3)) then (if (wrap64 (x6 + 3)) < (x0.length : Int) then (if (rd x0 (wrap64 (x6 + 3))) = 10 then (tollgateref09_Parse.l0 k x0 x6 (wrap64 (x6 + 1))) else (tollgateref09_Parse.l0 k x0 x5 (wrap64 (x6 + 1)))) else (none)) else (none)) else (tollgateref09_Parse.l0 k x0 x5 (wrap64 (x6 + 1)))) else (none)) else (none)) else (tollgateref09_Parse.l0 k x0 x5 (wrap64 (x6 + 1)))) else (none)) else (none)) else (tollgateref09_Parse.l0 k x0 x5 (wrap64 (x6 + 1)))) else (none)) else (none)) else (if x5 < 0 then (tollgateref09_Parse.j2 k x0 x5 (decide ((x0.length : Int) < 2048))) else (tollgateref09_Parse.j2 k x0 x5 false))
def tollgateref09_Parse.j2 : Nat → List Int → Int → Bool → Option (ByteArray × ByteArray × ByteArray × ByteArray × (List (S38)) × Int × Int)
 | 0, _, _, _ => none
 | k + 1, x0, x5, x68 => if x68 = true then (some ((⟨#[]⟩ : ByteArray), (⟨#[]⟩ : ByteArray), (⟨#[]⟩ : ByteArray), (⟨#[]⟩ : ByteArray), ([] : List (S38)), 0, 3)) else (if x5 < 0 then (some ((⟨#[]⟩ : ByteArray), (⟨#[]⟩ : ByteArray), (⟨#[]⟩ : ByteArray), (⟨#[]⟩ : ByteArray), ([] : List (S38)), 0, 6)) else (if 0 ≤ x5 then (if x5 ≤ (x0.length : Int) then ((tollgateref09_lines.f k (strOfNums (x0.take (x5 : Int).toNat))).bind fun t241 => (if 0 < (t241.length : Int) then ((ref_first.f k (rdOf ByteArray.empty t241 0)).bind fun bt246 => (if bt246.1 = true then (tollgateref09_Parse.l1 k x5 t241 0 1 bt246.2.1 bt246.2.2.1 bt246.2.2.2.1 bt246.2.2.2.2 ([] : List (S38))) else (some ((⟨#[]⟩ : ByteArray), (⟨#[]⟩ : ByteArray), (⟨#[]⟩ : ByteArray), (⟨#[]⟩ : ByteArray), ([] : List (S38)), 0, 4)))) else (none))) else (none)) else (none)))
def tollgateref09_Parse.l1 : Nat → Int → List ByteArray → Int → Int → ByteArray → ByteArray → ByteArray → ByteArray → List (S38) → Option (ByteArray × ByteArray × ByteArray × ByteArray × (List (S38)) × Int × Int)
 | 0, _, _, _, _, _, _, _, _, _ => none
 | k + 1, x5, x7, x9, x10, x245000, x245001, x245002, x245003, x245004 => if x10 < (x7.length : Int) then (if 0 ≤ x10 then ((tollgateref09_cut.f k (rdOf ByteArray.empty x7 x10) 58).bind fun bt252 => ((tollgateref09_trimmed.f k bt252.2.1).bind fun t255 => (if bt252.2.2 = true then ((tollgateref09_Token.f k bt252.1).bind fun t256 => (if t256 = true then ((tollgateref09_Value.f k t255).bind fun t257 => (tollgateref09_Parse.j4 k x5 x7 x9 x10 bt252.1 t255 (!t257) x245000 x245001 x245002 x245003 x245004)) else (tollgateref09_Parse.j4 k x5 x7 x9 x10 bt252.1 t255 true x245000 x245001 x245002 x245003 x245004))) else (tollgateref09_Parse.j4 k x5 x7 x9 x10 bt252.1 t255 true x245000 x245001 x245002 x245003 x245004)))) else (none)) else (if x9 = 1 then (if (x245004.length : Int) > 32 then (some ((⟨#[]⟩ : ByteArray), (⟨#[]⟩ : ByteArray), (⟨#[]⟩ : ByteArray), (⟨#[]⟩ : ByteArray), ([] : List (S38)), 0, 6)) else (some (x245000, x245001, x245002, x245003, x245004, wrap64 (x5 + 4), 0))) else (some ((⟨#[]⟩ : ByteArray), (⟨#[]⟩ : ByteArray), (⟨#[]⟩ : ByteArray), (⟨#[]⟩ : ByteArray), ([] : List (S38)), 0, 4)))
def tollgateref09_Parse.j4 : Nat → Int → List ByteArray → Int → Int → ByteArray → ByteArray → Bool → ByteArray → ByteArray → ByteArray → ByteArray → List (S38) → Option (ByteArray × ByteArray × ByteArray × ByteArray × (List (S38)) × Int × Int)
 | 0, _, _, _, _, _, _, _, _, _, _, _, _ => none
 | k + 1, x5, x7, x9, x10, x11, x12, x113, x245000, x245001, x245002, x245003, x245004 => if x113 = true then (some ((⟨#[]⟩ : ByteArray), (⟨#[]⟩ : ByteArray), (⟨#[]⟩ : ByteArray), (⟨#[]⟩ : ByteArray), ([] : List (S38)), 0, 4)) else ((tollgateref09_Lower.f k x11).bind fun t258 => (if x245004.length < 4398046511104 then ((some (x245004 ++ [(⟨t258, x12⟩ : S38)] : List (S38))).bind fun y259 => (if t258.toList = ([104, 111, 115, 116] : List UInt8) then ((tollgateref09_Host.f k x12).bind fun bt262 => (if bt262.2 = true then (tollgateref09_Parse.j5 k x5 x7 (wrap64 (x9 + 1)) x10 bt262.1 (decide ((wrap64 (x9 + 1)) > 1)) x245000 x245001 x245002 x245003 y259) else (tollgateref09_Parse.j5 k x5 x7 (wrap64 (x9 + 1)) x10 bt262.1 true x245000 x245001 x245002 x245003 y259))) else (tollgateref09_Parse.l1 k x5 x7 x9 (wrap64 (x10 + 1)) x245000 x245001 x245002 x245003 y259))) else (none)))
def tollgateref09_Parse.j5 : Nat → Int → List ByteArray → Int → Int → ByteArray → Bool → ByteArray → ByteArray → ByteArray → ByteArray → List (S38) → Option (ByteArray × ByteArray × ByteArray × ByteArray × (List (S38)) × Int × Int)
 | 0, _, _, _, _, _, _, _, _, _, _, _ => none
 | k + 1, x5, x7, x9, x10, x14, x139, x245000, x245001, x245002, x245003, x245004 => if x139 = true then (some ((⟨#[]⟩ : ByteArray), (⟨#[]⟩ : ByteArray), (⟨#[]⟩ : ByteArray), (⟨#[]⟩ : ByteArray), ([] : List (S38)), 0, 4)) else (if x245003.toList = ([] : List UInt8) then (tollgateref09_Parse.l1 k x5 x7 x9 (wrap64 (x10 + 1)) x245000 x245001 x245002 x14 x245004) else (tollgateref09_Parse.l1 k x5 x7 x9 (wrap64 (x10 + 1)) x245000 x245001 x245002 x245003 x245004))
end
def tollgateref09_Parse.f (k : Nat) (l0 : List Int) : Option (ByteArray × ByteArray × ByteArray × ByteArray × (List (S38)) × Int × Int) := tollgateref09_Parse.l0 k l0 (-1) 0
theorem tollgateref09_Parse.mono_l : ∀ k, (∀ y0 y1 y2, LeO (tollgateref09_Parse.l0 k y0 y1 y2) (tollgateref09_Parse.l0 (k + 1) y0 y1 y2)) ∧ (∀ y0 y1 y2 y3, LeO (tollgateref09_Parse.j1 k y0 y1 y2 y3) (tollgateref09_Parse.j1 (k + 1) y0 y1 y2 y3)) ∧ (∀ y0 y1 y2, LeO (tollgateref09_Parse.j2 k y0 y1 y2) (tollgateref09_Parse.j2 (k + 1) y0 y1 y2)) ∧ (∀ y0 y1 y2 y3 y4 y5 y6 y7 y8, LeO (tollgateref09_Parse.l1 k y0 y1 y2 y3 y4 y5 y6 y7 y8) (tollgateref09_Parse.l1 (k + 1) y0 y1 y2 y3 y4 y5 y6 y7 y8)) ∧ (∀ y0 y1 y2 y3 y4 y5 y6 y7 y8 y9 y10 y11, LeO (tollgateref09_Parse.j4 k y0 y1 y2 y3 y4 y5 y6 y7 y8 y9 y10 y11) (tollgateref09_Parse.j4 (k + 1) y0 y1 y2 y3 y4 y5 y6 y7 y8 y9 y10 y11)) ∧ (∀ y0 y1 y2 y3 y4 y5 y6 y7 y8 y9 y10, LeO (tollgateref09_Parse.j5 k y0 y1 y2 y3 y4 y5 y6 y7 y8 y9 y10) (tollgateref09_Parse.j5 (k + 1) y0 y1 y2 y3 y4 y5 y6 y7 y8 y9 y10))
 | 0 => ⟨fun _ _ _ r h => by simp [tollgateref09_Parse.l0] at h, fun _ _ _ _ r h => by simp [tollgateref09_Parse.j1] at h, fun _ _ _ r h => by simp [tollgateref09_Parse.j2] at h, fun _ _ _ _ _ _ _ _ _ r h => by simp [tollgateref09_Parse.l1] at h, fun _ _ _ _ _ _ _ _ _ _ _ _ r h => by simp [tollgateref09_Parse.j4] at h, fun _ _ _ _ _ _ _ _ _ _ _ r h => by simp [tollgateref09_Parse.j5] at h⟩
 | k + 1 => by
  obtain ⟨ih0, ih1, ih2, ih3, ih4, ih5⟩ := tollgateref09_Parse.mono_l k
  refine ⟨?_, ?_, ?_, ?_, ?_, ?_⟩
  ·intro y0 y1 y2
   unfold tollgateref09_Parse.l0
   repeat' first
   | (with_reducible exact ih0 _ _ _)
   | (with_reducible exact ih1 _ _ _ _)
   | (with_reducible exact ih2 _ _ _)
   | (with_reducible exact ih3 _ _ _ _ _ _ _ _ _)
   | (with_reducible exact ih4 _ _ _ _ _ _ _ _ _ _ _ _)
   | (with_reducible exact ih5 _ _ _ _ _ _ _ _ _ _ _)
   | (with_reducible exact ref_first.mono _ _)
   | (with_reducible exact tollgateref09_Host.mono _ _)
   | (with_reducible exact tollgateref09_Lower.mono _ _)
   | (with_reducible exact tollgateref09_Token.mono _ _)
   | (with_reducible exact tollgateref09_Value.mono _ _)
   | (with_reducible exact tollgateref09_cut.mono _ _ _)
   | (with_reducible exact tollgateref09_lines.mono _ _)
   | (with_reducible exact tollgateref09_trimmed.mono _ _)
   | (with_reducible exact LeO.refl _)
   | (with_reducible exact LeO.none _)
   | (with_reducible refine LeO.ite ?_ ?_)
   | (with_reducible refine LeO.bind ?_ (fun _ => ?_))
   | exact ih0 _ _ _
   | exact ih1 _ _ _ _
   | exact ih2 _ _ _
   | exact ih3 _ _ _ _ _ _ _ _ _
   | exact ih4 _ _ _ _ _ _ _ _ _ _ _ _
   | exact ih5 _ _ _ _ _ _ _ _ _ _ _
   | exact ref_first.mono _ _
   | exact tollgateref09_Host.mono _ _
   | exact tollgateref09_Lower.mono _ _
   | exact tollgateref09_Token.mono _ _
   | exact tollgateref09_Value.mono _ _
   | exact tollgateref09_cut.mono _ _ _
   | exact tollgateref09_lines.mono _ _
   | exact tollgateref09_trimmed.mono _ _
   | exact LeO.none _
   | refine LeO.ite ?_ ?_
   | refine LeO.bind ?_ (fun _ => ?_)
  ·intro y0 y1 y2 y3
   unfold tollgateref09_Parse.j1
   repeat' first
   | (with_reducible exact ih0 _ _ _)
   | (with_reducible exact ih1 _ _ _ _)
   | (with_reducible exact ih2 _ _ _)
   | (with_reducible exact ih3 _ _ _ _ _ _ _ _ _)
   | (with_reducible exact ih4 _ _ _ _ _ _ _ _ _ _ _ _)
   | (with_reducible exact ih5 _ _ _ _ _ _ _ _ _ _ _)
   | (with_reducible exact ref_first.mono _ _)
   | (with_reducible exact tollgateref09_Host.mono _ _)
   | (with_reducible exact tollgateref09_Lower.mono _ _)
   | (with_reducible exact tollgateref09_Token.mono _ _)
   | (with_reducible exact tollgateref09_Value.mono _ _)
   | (with_reducible exact tollgateref09_cut.mono _ _ _)
   | (with_reducible exact tollgateref09_lines.mono _ _)
   | (with_reducible exact tollgateref09_trimmed.mono _ _)
   | (with_reducible exact LeO.refl _)
   | (with_reducible exact LeO.none _)
   | (with_reducible refine LeO.ite ?_ ?_)
   | (with_reducible refine LeO.bind ?_ (fun _ => ?_))
   | exact ih0 _ _ _
   | exact ih1 _ _ _ _
   | exact ih2 _ _ _
   | exact ih3 _ _ _ _ _ _ _ _ _
   | exact ih4 _ _ _ _ _ _ _ _ _ _ _ _
   | exact ih5 _ _ _ _ _ _ _ _ _ _ _
   | exact ref_first.mono _ _
   | exact tollgateref09_Host.mono _ _
   | exact tollgateref09_Lower.mono _ _
   | exact tollgateref09_Token.mono _ _
   | exact tollgateref09_Value.mono _ _
   | exact tollgateref09_cut.mono _ _ _
   | exact tollgateref09_lines.mono _ _
   | exact tollgateref09_trimmed.mono _ _
   | exact LeO.none _
   | refine LeO.ite ?_ ?_
   | refine LeO.bind ?_ (fun _ => ?_)
  ·intro y0 y1 y2
   unfold tollgateref09_Parse.j2
   repeat' first
   | (with_reducible exact ih0 _ _ _)
   | (with_reducible exact ih1 _ _ _ _)
   | (with_reducible exact ih2 _ _ _)
   | (with_reducible exact ih3 _ _ _ _ _ _ _ _ _)
   | (with_reducible exact ih4 _ _ _ _ _ _ _ _ _ _ _ _)
   | (with_reducible exact ih5 _ _ _ _ _ _ _ _ _ _ _)
   | (with_reducible exact ref_first.mono _ _)
   | (with_reducible exact tollgateref09_Host.mono _ _)
   | (with_reducible exact tollgateref09_Lower.mono _ _)
   | (with_reducible exact tollgateref09_Token.mono _ _)
   | (with_reducible exact tollgateref09_Value.mono _ _)
   | (with_reducible exact tollgateref09_cut.mono _ _ _)
   | (with_reducible exact tollgateref09_lines.mono _ _)
   | (with_reducible exact tollgateref09_trimmed.mono _ _)
   | (with_reducible exact LeO.refl _)
   | (with_reducible exact LeO.none _)
   | (with_reducible refine LeO.ite ?_ ?_)
   | (with_reducible refine LeO.bind ?_ (fun _ => ?_))
   | exact ih0 _ _ _
   | exact ih1 _ _ _ _
   | exact ih2 _ _ _
   | exact ih3 _ _ _ _ _ _ _ _ _
   | exact ih4 _ _ _ _ _ _ _ _ _ _ _ _
   | exact ih5 _ _ _ _ _ _ _ _ _ _ _
   | exact ref_first.mono _ _
   | exact tollgateref09_Host.mono _ _
   | exact tollgateref09_Lower.mono _ _
   | exact tollgateref09_Token.mono _ _
   | exact tollgateref09_Value.mono _ _
   | exact tollgateref09_cut.mono _ _ _
   | exact tollgateref09_lines.mono _ _
   | exact tollgateref09_trimmed.mono _ _
   | exact LeO.none _
   | refine LeO.ite ?_ ?_
   | refine LeO.bind ?_ (fun _ => ?_)
  ·intro y0 y1 y2 y3 y4 y5 y6 y7 y8
   unfold tollgateref09_Parse.l1
   repeat' first
   | (with_reducible exact ih0 _ _ _)
   | (with_reducible exact ih1 _ _ _ _)
   | (with_reducible exact ih2 _ _ _)
   | (with_reducible exact ih3 _ _ _ _ _ _ _ _ _)
   | (with_reducible exact ih4 _ _ _ _ _ _ _ _ _ _ _ _)
   | (with_reducible exact ih5 _ _ _ _ _ _ _ _ _ _ _)
   | (with_reducible exact ref_first.mono _ _)
   | (with_reducible exact tollgateref09_Host.mono _ _)
   | (with_reducible exact tollgateref09_Lower.mono _ _)
   | (with_reducible exact tollgateref09_Token.mono _ _)
   | (with_reducible exact tollgateref09_Value.mono _ _)
   | (with_reducible exact tollgateref09_cut.mono _ _ _)
   | (with_reducible exact tollgateref09_lines.mono _ _)
   | (with_reducible exact tollgateref09_trimmed.mono _ _)
   | (with_reducible exact LeO.refl _)
   | (with_reducible exact LeO.none _)
   | (with_reducible refine LeO.ite ?_ ?_)
   | (with_reducible refine LeO.bind ?_ (fun _ => ?_))
   | exact ih0 _ _ _
   | exact ih1 _ _ _ _
   | exact ih2 _ _ _
   | exact ih3 _ _ _ _ _ _ _ _ _
   | exact ih4 _ _ _ _ _ _ _ _ _ _ _ _
   | exact ih5 _ _ _ _ _ _ _ _ _ _ _
   | exact ref_first.mono _ _
   | exact tollgateref09_Host.mono _ _
   | exact tollgateref09_Lower.mono _ _
   | exact tollgateref09_Token.mono _ _
   | exact tollgateref09_Value.mono _ _
   | exact tollgateref09_cut.mono _ _ _
   | exact tollgateref09_lines.mono _ _
   | exact tollgateref09_trimmed.mono _ _
   | exact LeO.none _
   | refine LeO.ite ?_ ?_
   | refine LeO.bind ?_ (fun _ => ?_)
  ·intro y0 y1 y2 y3 y4 y5 y6 y7 y8 y9 y10 y11
   unfold tollgateref09_Parse.j4
   repeat' first
   | (with_reducible exact ih0 _ _ _)
   | (with_reducible exact ih1 _ _ _ _)
   | (with_reducible exact ih2 _ _ _)
   | (with_reducible exact ih3 _ _ _ _ _ _ _ _ _)
   | (with_reducible exact ih4 _ _ _ _ _ _ _ _ _ _ _ _)
   | (with_reducible exact ih5 _ _ _ _ _ _ _ _ _ _ _)
   | (with_reducible exact ref_first.mono _ _)
   | (with_reducible exact tollgateref09_Host.mono _ _)
   | (with_reducible exact tollgateref09_Lower.mono _ _)
   | (with_reducible exact tollgateref09_Token.mono _ _)
   | (with_reducible exact tollgateref09_Value.mono _ _)
   | (with_reducible exact tollgateref09_cut.mono _ _ _)
   | (with_reducible exact tollgateref09_lines.mono _ _)
   | (with_reducible exact tollgateref09_trimmed.mono _ _)
   | (with_reducible exact LeO.refl _)
   | (with_reducible exact LeO.none _)
   | (with_reducible refine LeO.ite ?_ ?_)
   | (with_reducible refine LeO.bind ?_ (fun _ => ?_))
   | exact ih0 _ _ _
   | exact ih1 _ _ _ _
   | exact ih2 _ _ _
   | exact ih3 _ _ _ _ _ _ _ _ _
   | exact ih4 _ _ _ _ _ _ _ _ _ _ _ _
   | exact ih5 _ _ _ _ _ _ _ _ _ _ _
   | exact ref_first.mono _ _
   | exact tollgateref09_Host.mono _ _
   | exact tollgateref09_Lower.mono _ _
   | exact tollgateref09_Token.mono _ _
   | exact tollgateref09_Value.mono _ _
   | exact tollgateref09_cut.mono _ _ _
   | exact tollgateref09_lines.mono _ _
   | exact tollgateref09_trimmed.mono _ _
   | exact LeO.none _
   | refine LeO.ite ?_ ?_
   | refine LeO.bind ?_ (fun _ => ?_)
  ·intro y0 y1 y2 y3 y4 y5 y6 y7 y8 y9 y10
   unfold tollgateref09_Parse.j5
   repeat' first
   | (with_reducible exact ih0 _ _ _)
   | (with_reducible exact ih1 _ _ _ _)
   | (with_reducible exact ih2 _ _ _)
   | (with_reducible exact ih3 _ _ _ _ _ _ _ _ _)
   | (with_reducible exact ih4 _ _ _ _ _ _ _ _ _ _ _ _)
   | (with_reducible exact ih5 _ _ _ _ _ _ _ _ _ _ _)
   | (with_reducible exact ref_first.mono _ _)
   | (with_reducible exact tollgateref09_Host.mono _ _)
   | (with_reducible exact tollgateref09_Lower.mono _ _)
   | (with_reducible exact tollgateref09_Token.mono _ _)
   | (with_reducible exact tollgateref09_Value.mono _ _)
   | (with_reducible exact tollgateref09_cut.mono _ _ _)
   | (with_reducible exact tollgateref09_lines.mono _ _)
   | (with_reducible exact tollgateref09_trimmed.mono _ _)
   | (with_reducible exact LeO.refl _)
   | (with_reducible exact LeO.none _)
   | (with_reducible refine LeO.ite ?_ ?_)
   | (with_reducible refine LeO.bind ?_ (fun _ => ?_))
   | exact ih0 _ _ _
   | exact ih1 _ _ _ _
   | exact ih2 _ _ _
   | exact ih3 _ _ _ _ _ _ _ _ _
   | exact ih4 _ _ _ _ _ _ _ _ _ _ _ _
   | exact ih5 _ _ _ _ _ _ _ _ _ _ _
   | exact ref_first.mono _ _
   | exact tollgateref09_Host.mono _ _
   | exact tollgateref09_Lower.mono _ _
   | exact tollgateref09_Token.mono _ _
   | exact tollgateref09_Value.mono _ _
   | exact tollgateref09_cut.mono _ _ _
   | exact tollgateref09_lines.mono _ _
   | exact tollgateref09_trimmed.mono _ _
   | exact LeO.none _
   | refine LeO.ite ?_ ?_
   | refine LeO.bind ?_ (fun _ => ?_)
theorem tollgateref09_Parse.mono : ∀ a0 k, LeO (tollgateref09_Parse.f k a0) (tollgateref09_Parse.f (k + 1) a0) := by
 intro a0 k
 obtain ⟨ih0, ih1, ih2, ih3, ih4, ih5⟩ := tollgateref09_Parse.mono_l k
 unfold tollgateref09_Parse.f
 repeat' first
   | (with_reducible exact ih0 _ _ _)
   | (with_reducible exact ih1 _ _ _ _)
   | (with_reducible exact ih2 _ _ _)
   | (with_reducible exact ih3 _ _ _ _ _ _ _ _ _)
   | (with_reducible exact ih4 _ _ _ _ _ _ _ _ _ _ _ _)
   | (with_reducible exact ih5 _ _ _ _ _ _ _ _ _ _ _)
   | (with_reducible exact ref_first.mono _ _)
   | (with_reducible exact tollgateref09_Host.mono _ _)
   | (with_reducible exact tollgateref09_Lower.mono _ _)
   | (with_reducible exact tollgateref09_Token.mono _ _)
   | (with_reducible exact tollgateref09_Value.mono _ _)
   | (with_reducible exact tollgateref09_cut.mono _ _ _)
   | (with_reducible exact tollgateref09_lines.mono _ _)
   | (with_reducible exact tollgateref09_trimmed.mono _ _)
   | (with_reducible exact LeO.refl _)
   | (with_reducible exact LeO.none _)
   | (with_reducible refine LeO.ite ?_ ?_)
   | (with_reducible refine LeO.bind ?_ (fun _ => ?_))
   | exact ih0 _ _ _
   | exact ih1 _ _ _ _
   | exact ih2 _ _ _
   | exact ih3 _ _ _ _ _ _ _ _ _
   | exact ih4 _ _ _ _ _ _ _ _ _ _ _ _
   | exact ih5 _ _ _ _ _ _ _ _ _ _ _
   | exact ref_first.mono _ _
   | exact tollgateref09_Host.mono _ _
   | exact tollgateref09_Lower.mono _ _
   | exact tollgateref09_Token.mono _ _
   | exact tollgateref09_Value.mono _ _
   | exact tollgateref09_cut.mono _ _ _
   | exact tollgateref09_lines.mono _ _
   | exact tollgateref09_trimmed.mono _ _
   | exact LeO.none _
   | refine LeO.ite ?_ ?_
   | refine LeO.bind ?_ (fun _ => ?_)
theorem keepR {α : Type} {d : Kd α} {e base g : Nat} {ok : Nat → Prop} {v : Value} {xs : List α} {w w1 : World} (h : d.R e w base ok v xs) (hk : KeepBut w w1 g none) (hok : ∀ k, ok k → k ≠ g) : d.R e w1 base ok v xs :=
 Kd.R_step h (fun k ho hlt => hk.2 k hlt (hok k ho) (by simp))
set_option maxHeartbeats 8000000 in
set_option maxRecDepth 100000 in
theorem tollgateref09_Parse.calls (k : Nat) (A0 : Option Addr) (c0 : Nat) (l0 : List Int) (r1 : ByteArray) (r2 : ByteArray) (r3 : ByteArray) (r4 : ByteArray) (r5 : List (S38)) (r6 : Int) (r7 : Int) (w : World) (hr0 : Kd.C (Kd.int .u8) w A0 l0.length l0) (hc0 : l0.length ≤ c0) (h : tollgateref09_Parse.f k l0 = some (r1, r2, r3, r4, r5, r6, r7)) :
  Calls Tryd.prog 15 #[.slice A0 l0.length c0] w fun e w' => ∃ v4_ : Value, e = .returned (.tuple #[.agg #[.string r1, .string r2, .string r3, .string r4, v4_], .int .i64 r6, .int .i64 r7]) ∧ Kd.R k38 38 w' w.heap.size (fun _ => True) v4_ r5 ∧ Below w.heap.size w w' := by
 have hu25 := Tryd.underlying25
 have hu38 := Tryd.underlying38
 have HR0 := Aside0.mk hr0
 have HC0 := Aside0.mk hc0
 clear hr0 hc0
 have HB := Aside0.mk (Below.refl w.heap.size w)
 have H : (tollgateref09_Parse.l0 k l0 (-1) 0) = some (r1, r2, r3, r4, r5, r6, r7) := h
 clear h
 have H' := Aside0.mk H
 clear H
 go_enter Tryd.func15, Tryd.ntmps15
 go_wp2_with (first | ((with_reducible refine gate_dst (N := 2) rfl ?_); (try (refine gate_guard (by rfl) ?_; dsimp only)); refine box_event ?hg (N := 2) ?hd (cs := #[.string (⟨#[]⟩ : ByteArray), .string (⟨#[]⟩ : ByteArray), .string (⟨#[]⟩ : ByteArray), .string (⟨#[]⟩ : ByteArray), .slice none 0 0]) (t := 25) ?hr ?_; (case hd => rfl); (case hg => rfl); (case hr => first | (go_simp; done) | (go_simp; rfl)); intro gb235 hg w2 hbox hb; have n0_ := Aside0.mk (below_step (by repeat (first | (with_reducible first | exact HB.out | apply below_alloc | apply pw_below_drewN | apply below_drew1) | exact HB.out)) hb); have n1_ := Aside0.mk (hbox); have n2_ := Aside0.mk ((by rw [hg]; exact (below_size (by repeat (first | (with_reducible first | exact HB.out | apply below_alloc | apply pw_below_drewN | apply below_drew1) | exact HB.out))) : w.heap.size ≤ gb235)); have n3_ := Aside0.mk ((by rw [hg]; exact (below_size (by repeat (first | (with_reducible first | exact HB.out | apply below_alloc | apply pw_below_drewN | apply below_drew1) | exact HB.out))) : w.heap.size ≤ gb235)); clear HB; have HB := n0_; have BK235 := n1_; have GW235 := n2_; have GE235 := n3_; clear n0_ n1_ n2_ n3_; clear hb hbox hg))
 go_loopg [5, 6] k (fun kq v5 v6 w' => ∃ (x5_1 : Int) (x6_1 : Int), v5 = .int .i64 x5_1 ∧ v6 = .int .i64 x6_1 ∧ Aside0 (tollgateref09_Parse.l0 kq l0 x5_1 x6_1 = some (r1, r2, r3, r4, r5, r6, r7)) ∧ Aside0 (kq ≤ k) ∧ Aside0 (w'.heap[gb235]? = some (.cells #[.string (⟨#[]⟩ : ByteArray), .string (⟨#[]⟩ : ByteArray), .string (⟨#[]⟩ : ByteArray), .string (⟨#[]⟩ : ByteArray), (.slice none 0 0)] 25 (0, 0))) ∧ Aside0 (Below w.heap.size w w'))
 case atStart => exact ⟨((-1)), (0), (by first | rfl | (simp; done) | (simp [*]; done)), (by first | rfl | (simp; done) | (simp [*]; done)), H', ⟨Nat.le_refl _⟩, ⟨by (with_reducible repeat (first | refine blk_drewN ?_ _ | refine blk_drew ?_ | refine blk_alloc ?_ _)); exact BK235.out⟩, ⟨by repeat (first | (with_reducible first | exact HB.out | apply below_alloc | apply pw_below_drewN | apply below_drew1 | refine below_set ?_ GE235.out) | exact HB.out)⟩⟩
 case round =>
  clear H'
  obtain ⟨x5_1, x6_1, rfl, rfl, HA, HK1, BK235, HB⟩ := hrel
  cases gk with
  | zero => exact absurd HA.out (by simp [tollgateref09_Parse.l0])
  | succ k1 =>
   have H := HA.out
   clear HA
   simp only [tollgateref09_Parse.l0] at H
   have HC3 := Aside0.mk H
   clear H
   go_upto_region 3 with (fail)
   go_cut [29] (fun v29 wc => ∃ (kq : Nat) (x29_2 : Bool), v29 = .bool x29_2 ∧ Aside0 (tollgateref09_Parse.j1 kq l0 x5_1 x6_1 x29_2 = some (r1, r2, r3, r4, r5, r6, r7)) ∧ Aside0 (kq ≤ k1) ∧ Aside0 (wc.heap[gb235]? = some (.cells #[.string (⟨#[]⟩ : ByteArray), .string (⟨#[]⟩ : ByteArray), .string (⟨#[]⟩ : ByteArray), .string (⟨#[]⟩ : ByteArray), (.slice none 0 0)] 25 (0, 0))) ∧ Aside0 (Below w.heap.size w wc))
   case first =>
    have H := HC3.out
    clear HC3
    by_cases c4 : (wrap64 (x6_1 + 4)) ≤ (l0.length : Int)
    ·rw [if_pos c4] at H
     have c4b0 : decide ((wrap64 (x6_1 + 4)) ≤ (l0.length : Int)) = true := decide_eq_true c4
     clear c4
     (first | rw [c4b0] | (simp only [i64_w, i32_w]; rw [c4b0]) | skip)
     by_cases c5 : (wrap64 (x6_1 + 4)) ≤ 2048
     ·rw [if_pos c5] at H
      have c5b0 : decide ((wrap64 (x6_1 + 4)) ≤ 2048) = true := decide_eq_true c5
      clear c5
      have H' := Aside0.mk H
      clear H
      go_wp2
      go_meet
      case rel => exact ⟨_, (decide (x5_1 < 0)), (by first | rfl | (simp; done) | (simp [*]; done)), H', ⟨by have := HK1.out; first | omega | exact Nat.le_refl _⟩, ⟨by (with_reducible repeat (first | refine blk_drewN ?_ _ | refine blk_drew ?_ | refine blk_alloc ?_ _)); exact BK235.out⟩, ⟨by repeat (first | (with_reducible first | exact HB.out | apply below_alloc | apply pw_below_drewN | apply below_drew1 | refine below_set ?_ GE235.out) | exact HB.out)⟩⟩
     ·rw [if_neg c5] at H
      have c5b0 : decide ((wrap64 (x6_1 + 4)) ≤ 2048) = false := decide_eq_false c5
      clear c5
      have H' := Aside0.mk H
      clear H
      go_wp2
      go_meet
      case rel => exact ⟨_, (false), (by first | rfl | (simp; done) | (simp [*]; done)), H', ⟨by have := HK1.out; first | omega | exact Nat.le_refl _⟩, ⟨by (with_reducible repeat (first | refine blk_drewN ?_ _ | refine blk_drew ?_ | refine blk_alloc ?_ _)); exact BK235.out⟩, ⟨by repeat (first | (with_reducible first | exact HB.out | apply below_alloc | apply pw_below_drewN | apply below_drew1 | refine below_set ?_ GE235.out) | exact HB.out)⟩⟩
    ·rw [if_neg c4] at H
     have c4b0 : decide ((wrap64 (x6_1 + 4)) ≤ (l0.length : Int)) = false := decide_eq_false c4
     clear c4
     (first | rw [c4b0] | (simp only [i64_w, i32_w]; rw [c4b0]) | skip)
     have H' := Aside0.mk H
     clear H
     go_wp2
     go_meet
     case rel => exact ⟨_, (false), (by first | rfl | (simp; done) | (simp [*]; done)), H', ⟨by have := HK1.out; first | omega | exact Nat.le_refl _⟩, ⟨by (with_reducible repeat (first | refine blk_drewN ?_ _ | refine blk_drew ?_ | refine blk_alloc ?_ _)); exact BK235.out⟩, ⟨by repeat (first | (with_reducible first | exact HB.out | apply below_alloc | apply pw_below_drewN | apply below_drew1 | refine below_set ?_ GE235.out) | exact HB.out)⟩⟩
   case rest =>
    clear HC3
    obtain ⟨kq, x29_2, rfl, HA, HJ2, BK235, HB⟩ := hcut
    cases kq with
    | zero => exact absurd HA.out (by simp [tollgateref09_Parse.j1])
    | succ kj2 =>
     have H := HA.out
     clear HA
     simp only [tollgateref09_Parse.j1] at H
     by_cases c6 : x29_2 = true
     ·subst c6
      have H1 : (if 0 ≤ x6_1 then (if x6_1 < (l0.length : Int) then (if (rd l0 x6_1) = 13 then (if 0 ≤ (wrap64 (x6_1 + 1)) then (if (wrap64 (x6_1 + 1)) < (l0.length : Int) then (if (rd l0 (wrap64 (x6_1 + 1))) = 10 then (if 0 ≤ (wrap64 (x6_1 + 2)) then (if (wrap64 (x6_1 + 2)) < (l0.length : Int) then (if (rd l0 (wrap64 (x6_1 + 2))) = 13 then (if 0 ≤ (wrap64 (x6_1 + 3)) then (if (wrap64 (x6_1 + 3)) < (l0.length : Int) then (if (rd l0 (wrap64 (x6_1 + 3))) = 10 then (tollgateref09_Parse.l0 kj2 l0 x6_1 (wrap64 (x6_1 + 1))) else (tollgateref09_Parse.l0 kj2 l0 x5_1 (wrap64 (x6_1 + 1)))) else (none)) else (none)) else (tollgateref09_Parse.l0 kj2 l0 x5_1 (wrap64 (x6_1 + 1)))) else (none)) else (none)) else (tollgateref09_Parse.l0 kj2 l0 x5_1 (wrap64 (x6_1 + 1)))) else (none)) else (none)) else (tollgateref09_Parse.l0 kj2 l0 x5_1 (wrap64 (x6_1 + 1)))) else (none)) else (none)) = some (r1, r2, r3, r4, r5, r6, r7) := by rw [if_pos rfl] at H; exact H
      clear H
      have H := H1
      clear H1
      by_cases c7 : 0 ≤ x6_1
      ·rw [if_pos c7] at H
       have c7b0 : decide (0 ≤ x6_1) = true := decide_eq_true c7
       clear c7
       by_cases c8 : x6_1 < (l0.length : Int)
       ·rw [if_pos c8] at H
        have c8b0 : decide (x6_1 < (l0.length : Int)) = true := decide_eq_true c8
        clear c8
        by_cases c9 : (rd l0 x6_1) = 13
        ·rw [if_pos c9] at H
         have c9b0 : ((rd l0 x6_1) == 13) = true := beq_iff_eq.mpr c9
         have c9b1 : ((rd l0 x6_1) != 13) = false := bne_eq_false_iff_eq.mpr c9
         clear c9
         obtain ⟨ji10, hji10⟩ : ∃ j_ : Int, (wrap64 (x6_1 + 1)) = j_ := ⟨_, rfl⟩
         replace H : (if 0 ≤ (ji10) then (if (ji10) < (l0.length : Int) then (if (rd l0 (ji10)) = 10 then (if 0 ≤ (wrap64 (x6_1 + 2)) then (if (wrap64 (x6_1 + 2)) < (l0.length : Int) then (if (rd l0 (wrap64 (x6_1 + 2))) = 13 then (if 0 ≤ (wrap64 (x6_1 + 3)) then (if (wrap64 (x6_1 + 3)) < (l0.length : Int) then (if (rd l0 (wrap64 (x6_1 + 3))) = 10 then (tollgateref09_Parse.l0 kj2 l0 x6_1 ji10) else (tollgateref09_Parse.l0 kj2 l0 x5_1 ji10)) else (none)) else (none)) else (tollgateref09_Parse.l0 kj2 l0 x5_1 ji10)) else (none)) else (none)) else (tollgateref09_Parse.l0 kj2 l0 x5_1 ji10)) else (none)) else (none)) = some (r1, r2, r3, r4, r5, r6, r7) := by first | (rw [hji10] at H; exact H) | (simp only [hji10] at H ⊢; exact H)
         have hji10w : (IntKind.i64.wrap (x6_1 + 1)) = ji10 := (i64_w _).trans hji10
         by_cases c11 : 0 ≤ (ji10)
         ·rw [if_pos c11] at H
          have c11b0 : decide (0 ≤ (ji10)) = true := decide_eq_true c11
          clear c11
          by_cases c12 : (ji10) < (l0.length : Int)
          ·rw [if_pos c12] at H
           have c12b0 : decide ((ji10) < (l0.length : Int)) = true := decide_eq_true c12
           clear c12
           by_cases c13 : (rd l0 (ji10)) = 10
           ·rw [if_pos c13] at H
            have c13b0 : ((rd l0 (ji10)) == 10) = true := beq_iff_eq.mpr c13
            have c13b1 : ((rd l0 (ji10)) != 10) = false := bne_eq_false_iff_eq.mpr c13
            clear c13
            obtain ⟨ji14, hji14⟩ : ∃ j_ : Int, (wrap64 (x6_1 + 2)) = j_ := ⟨_, rfl⟩
            replace H : (if 0 ≤ (ji14) then (if (ji14) < (l0.length : Int) then (if (rd l0 (ji14)) = 13 then (if 0 ≤ (wrap64 (x6_1 + 3)) then (if (wrap64 (x6_1 + 3)) < (l0.length : Int) then (if (rd l0 (wrap64 (x6_1 + 3))) = 10 then (tollgateref09_Parse.l0 kj2 l0 x6_1 ji10) else (tollgateref09_Parse.l0 kj2 l0 x5_1 ji10)) else (none)) else (none)) else (tollgateref09_Parse.l0 kj2 l0 x5_1 ji10)) else (none)) else (none)) = some (r1, r2, r3, r4, r5, r6, r7) := by first | (rw [hji14] at H; exact H) | (simp only [hji14] at H ⊢; exact H)
            have hji14w : (IntKind.i64.wrap (x6_1 + 2)) = ji14 := (i64_w _).trans hji14
            by_cases c15 : 0 ≤ (ji14)
            ·rw [if_pos c15] at H
             have c15b0 : decide (0 ≤ (ji14)) = true := decide_eq_true c15
             clear c15
             by_cases c16 : (ji14) < (l0.length : Int)
             ·rw [if_pos c16] at H
              have c16b0 : decide ((ji14) < (l0.length : Int)) = true := decide_eq_true c16
              clear c16
              by_cases c17 : (rd l0 (ji14)) = 13
              ·rw [if_pos c17] at H
               have c17b0 : ((rd l0 (ji14)) == 13) = true := beq_iff_eq.mpr c17
               have c17b1 : ((rd l0 (ji14)) != 13) = false := bne_eq_false_iff_eq.mpr c17
               clear c17
               obtain ⟨ji18, hji18⟩ : ∃ j_ : Int, (wrap64 (x6_1 + 3)) = j_ := ⟨_, rfl⟩
               replace H : (if 0 ≤ (ji18) then (if (ji18) < (l0.length : Int) then (if (rd l0 (ji18)) = 10 then (tollgateref09_Parse.l0 kj2 l0 x6_1 ji10) else (tollgateref09_Parse.l0 kj2 l0 x5_1 ji10)) else (none)) else (none)) = some (r1, r2, r3, r4, r5, r6, r7) := by first | (rw [hji18] at H; exact H) | (simp only [hji18] at H ⊢; exact H)
               have hji18w : (IntKind.i64.wrap (x6_1 + 3)) = ji18 := (i64_w _).trans hji18
               by_cases c19 : 0 ≤ (ji18)
               ·rw [if_pos c19] at H
                have c19b0 : decide (0 ≤ (ji18)) = true := decide_eq_true c19
                clear c19
                by_cases c20 : (ji18) < (l0.length : Int)
                ·rw [if_pos c20] at H
                 have c20b0 : decide ((ji18) < (l0.length : Int)) = true := decide_eq_true c20
                 clear c20
                 by_cases c21 : (rd l0 (ji18)) = 10
                 ·rw [if_pos c21] at H
                  have c21b0 : ((rd l0 (ji18)) == 10) = true := beq_iff_eq.mpr c21
                  have c21b1 : ((rd l0 (ji18)) != 10) = false := bne_eq_false_iff_eq.mpr c21
                  clear c21
                  have H' := Aside0.mk H
                  clear H
                  have p236 : 0 ≤ (x6_1 : Int) := of_decide_eq_true (by first | (with_reducible assumption) | assumption)
                  have q236 : x6_1 < (l0.length : Int) := of_decide_eq_true (by first | (with_reducible assumption) | assumption)
                  obtain ⟨ad236, e236, hx236_0⟩ := Kd.at_int HR0.out x6_1 p236 q236
                  cases e236
                  replace hx236_0 := (HB.out.cell (World.block_lt_of_cell? w _ hx236_0)).trans hx236_0
                  replace p236 := eq_true p236
                  replace q236 := eq_true q236
                  have p237 : 0 ≤ ((ji10) : Int) := of_decide_eq_true (by first | (with_reducible assumption) | assumption)
                  have q237 : (ji10) < (l0.length : Int) := of_decide_eq_true (by first | (with_reducible assumption) | assumption)
                  obtain ⟨ad237, e237, hx237_0⟩ := Kd.at_int HR0.out (ji10) p237 q237
                  obtain rfl : ad236 = ad237 := (by injection e237)
                  replace hx237_0 := (HB.out.cell (World.block_lt_of_cell? w _ hx237_0)).trans hx237_0
                  replace p237 := eq_true p237
                  replace q237 := eq_true q237
                  have p238 : 0 ≤ ((ji14) : Int) := of_decide_eq_true (by first | (with_reducible assumption) | assumption)
                  have q238 : (ji14) < (l0.length : Int) := of_decide_eq_true (by first | (with_reducible assumption) | assumption)
                  obtain ⟨ad238, e238, hx238_0⟩ := Kd.at_int HR0.out (ji14) p238 q238
                  obtain rfl : ad236 = ad238 := (by injection e238)
                  replace hx238_0 := (HB.out.cell (World.block_lt_of_cell? w _ hx238_0)).trans hx238_0
                  replace p238 := eq_true p238
                  replace q238 := eq_true q238
                  have p239 : 0 ≤ ((ji18) : Int) := of_decide_eq_true (by first | (with_reducible assumption) | assumption)
                  have q239 : (ji18) < (l0.length : Int) := of_decide_eq_true (by first | (with_reducible assumption) | assumption)
                  obtain ⟨ad239, e239, hx239_0⟩ := Kd.at_int HR0.out (ji18) p239 q239
                  obtain rfl : ad236 = ad239 := (by injection e239)
                  replace hx239_0 := (HB.out.cell (World.block_lt_of_cell? w _ hx239_0)).trans hx239_0
                  replace p239 := eq_true p239
                  replace q239 := eq_true q239
                  go_wp2
                  go_roundg kj2
                  case measure => have := HK1.out; have := HJ2.out; omega
                  case rel => exact ⟨(x6_1), (ji10), (by first | rfl | (simp; done) | (simp [*]; done)), (by first | rfl | (simp; done) | (simp only [← hji10] <;> (first | rfl | simp)) | (simp [*]; done)), H', ⟨by have := HK1.out; have := HJ2.out; omega⟩, ⟨by (with_reducible repeat (first | refine blk_drewN ?_ _ | refine blk_drew ?_ | refine blk_alloc ?_ _)); exact BK235.out⟩, ⟨by repeat (first | (with_reducible first | exact HB.out | apply below_alloc | apply pw_below_drewN | apply below_drew1 | refine below_set ?_ GE235.out) | exact HB.out)⟩⟩
                 ·rw [if_neg c21] at H
                  have c21b0 : ((rd l0 (ji18)) == 10) = false := beq_eq_false_iff_ne.mpr c21
                  have c21b1 : ((rd l0 (ji18)) != 10) = true := bne_iff_ne.mpr c21
                  have H' := Aside0.mk H
                  clear H
                  have p236 : 0 ≤ (x6_1 : Int) := of_decide_eq_true (by first | (with_reducible assumption) | assumption)
                  have q236 : x6_1 < (l0.length : Int) := of_decide_eq_true (by first | (with_reducible assumption) | assumption)
                  obtain ⟨ad236, e236, hx236_0⟩ := Kd.at_int HR0.out x6_1 p236 q236
                  cases e236
                  replace hx236_0 := (HB.out.cell (World.block_lt_of_cell? w _ hx236_0)).trans hx236_0
                  replace p236 := eq_true p236
                  replace q236 := eq_true q236
                  have p237 : 0 ≤ ((ji10) : Int) := of_decide_eq_true (by first | (with_reducible assumption) | assumption)
                  have q237 : (ji10) < (l0.length : Int) := of_decide_eq_true (by first | (with_reducible assumption) | assumption)
                  obtain ⟨ad237, e237, hx237_0⟩ := Kd.at_int HR0.out (ji10) p237 q237
                  obtain rfl : ad236 = ad237 := (by injection e237)
                  replace hx237_0 := (HB.out.cell (World.block_lt_of_cell? w _ hx237_0)).trans hx237_0
                  replace p237 := eq_true p237
                  replace q237 := eq_true q237
                  have p238 : 0 ≤ ((ji14) : Int) := of_decide_eq_true (by first | (with_reducible assumption) | assumption)
                  have q238 : (ji14) < (l0.length : Int) := of_decide_eq_true (by first | (with_reducible assumption) | assumption)
                  obtain ⟨ad238, e238, hx238_0⟩ := Kd.at_int HR0.out (ji14) p238 q238
                  obtain rfl : ad236 = ad238 := (by injection e238)
                  replace hx238_0 := (HB.out.cell (World.block_lt_of_cell? w _ hx238_0)).trans hx238_0
                  replace p238 := eq_true p238
                  replace q238 := eq_true q238
                  have p239 : 0 ≤ ((ji18) : Int) := of_decide_eq_true (by first | (with_reducible assumption) | assumption)
                  have q239 : (ji18) < (l0.length : Int) := of_decide_eq_true (by first | (with_reducible assumption) | assumption)
                  obtain ⟨ad239, e239, hx239_0⟩ := Kd.at_int HR0.out (ji18) p239 q239
                  obtain rfl : ad236 = ad239 := (by injection e239)
                  replace hx239_0 := (HB.out.cell (World.block_lt_of_cell? w _ hx239_0)).trans hx239_0
                  replace p239 := eq_true p239
                  replace q239 := eq_true q239
                  go_wp2
                  go_roundg kj2
                  case measure => have := HK1.out; have := HJ2.out; omega
                  case rel => exact ⟨(x5_1), (ji10), (by first | rfl | (simp; done) | (simp [*]; done)), (by first | rfl | (simp; done) | (simp only [← hji10] <;> (first | rfl | simp)) | (simp [*]; done)), H', ⟨by have := HK1.out; have := HJ2.out; omega⟩, ⟨by (with_reducible repeat (first | refine blk_drewN ?_ _ | refine blk_drew ?_ | refine blk_alloc ?_ _)); exact BK235.out⟩, ⟨by repeat (first | (with_reducible first | exact HB.out | apply below_alloc | apply pw_below_drewN | apply below_drew1 | refine below_set ?_ GE235.out) | exact HB.out)⟩⟩
                ·rw [if_neg c20] at H
                 exact absurd H (by simp)
               ·rw [if_neg c19] at H
                exact absurd H (by simp)
              ·rw [if_neg c17] at H
               have c17b0 : ((rd l0 (ji14)) == 13) = false := beq_eq_false_iff_ne.mpr c17
               have c17b1 : ((rd l0 (ji14)) != 13) = true := bne_iff_ne.mpr c17
               have H' := Aside0.mk H
               clear H
               have p236 : 0 ≤ (x6_1 : Int) := of_decide_eq_true (by first | (with_reducible assumption) | assumption)
               have q236 : x6_1 < (l0.length : Int) := of_decide_eq_true (by first | (with_reducible assumption) | assumption)
               obtain ⟨ad236, e236, hx236_0⟩ := Kd.at_int HR0.out x6_1 p236 q236
               cases e236
               replace hx236_0 := (HB.out.cell (World.block_lt_of_cell? w _ hx236_0)).trans hx236_0
               replace p236 := eq_true p236
               replace q236 := eq_true q236
               have p237 : 0 ≤ ((ji10) : Int) := of_decide_eq_true (by first | (with_reducible assumption) | assumption)
               have q237 : (ji10) < (l0.length : Int) := of_decide_eq_true (by first | (with_reducible assumption) | assumption)
               obtain ⟨ad237, e237, hx237_0⟩ := Kd.at_int HR0.out (ji10) p237 q237
               obtain rfl : ad236 = ad237 := (by injection e237)
               replace hx237_0 := (HB.out.cell (World.block_lt_of_cell? w _ hx237_0)).trans hx237_0
               replace p237 := eq_true p237
               replace q237 := eq_true q237
               have p238 : 0 ≤ ((ji14) : Int) := of_decide_eq_true (by first | (with_reducible assumption) | assumption)
               have q238 : (ji14) < (l0.length : Int) := of_decide_eq_true (by first | (with_reducible assumption) | assumption)
               obtain ⟨ad238, e238, hx238_0⟩ := Kd.at_int HR0.out (ji14) p238 q238
               obtain rfl : ad236 = ad238 := (by injection e238)
               replace hx238_0 := (HB.out.cell (World.block_lt_of_cell? w _ hx238_0)).trans hx238_0
               replace p238 := eq_true p238
               replace q238 := eq_true q238
               go_wp2
               go_roundg kj2
               case measure => have := HK1.out; have := HJ2.out; omega
               case rel => exact ⟨(x5_1), (ji10), (by first | rfl | (simp; done) | (simp [*]; done)), (by first | rfl | (simp; done) | (simp only [← hji10] <;> (first | rfl | simp)) | (simp [*]; done)), H', ⟨by have := HK1.out; have := HJ2.out; omega⟩, ⟨by (with_reducible repeat (first | refine blk_drewN ?_ _ | refine blk_drew ?_ | refine blk_alloc ?_ _)); exact BK235.out⟩, ⟨by repeat (first | (with_reducible first | exact HB.out | apply below_alloc | apply pw_below_drewN | apply below_drew1 | refine below_set ?_ GE235.out) | exact HB.out)⟩⟩
             ·rw [if_neg c16] at H
              exact absurd H (by simp)
            ·rw [if_neg c15] at H
             exact absurd H (by simp)
           ·rw [if_neg c13] at H
            have c13b0 : ((rd l0 (ji10)) == 10) = false := beq_eq_false_iff_ne.mpr c13
            have c13b1 : ((rd l0 (ji10)) != 10) = true := bne_iff_ne.mpr c13
            have H' := Aside0.mk H
            clear H
            have p236 : 0 ≤ (x6_1 : Int) := of_decide_eq_true (by first | (with_reducible assumption) | assumption)
            have q236 : x6_1 < (l0.length : Int) := of_decide_eq_true (by first | (with_reducible assumption) | assumption)
            obtain ⟨ad236, e236, hx236_0⟩ := Kd.at_int HR0.out x6_1 p236 q236
            cases e236
            replace hx236_0 := (HB.out.cell (World.block_lt_of_cell? w _ hx236_0)).trans hx236_0
            replace p236 := eq_true p236
            replace q236 := eq_true q236
            have p237 : 0 ≤ ((ji10) : Int) := of_decide_eq_true (by first | (with_reducible assumption) | assumption)
            have q237 : (ji10) < (l0.length : Int) := of_decide_eq_true (by first | (with_reducible assumption) | assumption)
            obtain ⟨ad237, e237, hx237_0⟩ := Kd.at_int HR0.out (ji10) p237 q237
            obtain rfl : ad236 = ad237 := (by injection e237)
            replace hx237_0 := (HB.out.cell (World.block_lt_of_cell? w _ hx237_0)).trans hx237_0
            replace p237 := eq_true p237
            replace q237 := eq_true q237
            go_wp2
            go_roundg kj2
            case measure => have := HK1.out; have := HJ2.out; omega
            case rel => exact ⟨(x5_1), (ji10), (by first | rfl | (simp; done) | (simp [*]; done)), (by first | rfl | (simp; done) | (simp only [← hji10] <;> (first | rfl | simp)) | (simp [*]; done)), H', ⟨by have := HK1.out; have := HJ2.out; omega⟩, ⟨by (with_reducible repeat (first | refine blk_drewN ?_ _ | refine blk_drew ?_ | refine blk_alloc ?_ _)); exact BK235.out⟩, ⟨by repeat (first | (with_reducible first | exact HB.out | apply below_alloc | apply pw_below_drewN | apply below_drew1 | refine below_set ?_ GE235.out) | exact HB.out)⟩⟩
          ·rw [if_neg c12] at H
           exact absurd H (by simp)
         ·rw [if_neg c11] at H
          exact absurd H (by simp)
        ·rw [if_neg c9] at H
         have c9b0 : ((rd l0 x6_1) == 13) = false := beq_eq_false_iff_ne.mpr c9
         have c9b1 : ((rd l0 x6_1) != 13) = true := bne_iff_ne.mpr c9
         have H' := Aside0.mk H
         clear H
         have p236 : 0 ≤ (x6_1 : Int) := of_decide_eq_true (by first | (with_reducible assumption) | assumption)
         have q236 : x6_1 < (l0.length : Int) := of_decide_eq_true (by first | (with_reducible assumption) | assumption)
         obtain ⟨ad236, e236, hx236_0⟩ := Kd.at_int HR0.out x6_1 p236 q236
         cases e236
         replace hx236_0 := (HB.out.cell (World.block_lt_of_cell? w _ hx236_0)).trans hx236_0
         replace p236 := eq_true p236
         replace q236 := eq_true q236
         go_wp2
         go_roundg kj2
         case measure => have := HK1.out; have := HJ2.out; omega
         case rel => exact ⟨(x5_1), (wrap64 (x6_1 + 1)), (by first | rfl | (simp; done) | (simp [*]; done)), (by first | rfl | (simp; done) | (simp [*]; done)), H', ⟨by have := HK1.out; have := HJ2.out; omega⟩, ⟨by (with_reducible repeat (first | refine blk_drewN ?_ _ | refine blk_drew ?_ | refine blk_alloc ?_ _)); exact BK235.out⟩, ⟨by repeat (first | (with_reducible first | exact HB.out | apply below_alloc | apply pw_below_drewN | apply below_drew1 | refine below_set ?_ GE235.out) | exact HB.out)⟩⟩
       ·rw [if_neg c8] at H
        exact absurd H (by simp)
      ·rw [if_neg c7] at H
       exact absurd H (by simp)
     ·replace c6 := Bool.eq_false_iff.mpr c6
      subst c6
      have H1 : (if x5_1 < 0 then (tollgateref09_Parse.j2 kj2 l0 x5_1 (decide ((l0.length : Int) < 2048))) else (tollgateref09_Parse.j2 kj2 l0 x5_1 false)) = some (r1, r2, r3, r4, r5, r6, r7) := by rw [if_neg (show ¬ (false = true) by decide)] at H; exact H
      clear H
      have H := H1
      clear H1
      have HC22 := Aside0.mk H
      clear H
      go_upto_region 7 with (fail)
      go_cut [68] (fun v68 wc => ∃ (kq : Nat) (x68_21 : Bool), v68 = .bool x68_21 ∧ Aside0 (tollgateref09_Parse.j2 kq l0 x5_1 x68_21 = some (r1, r2, r3, r4, r5, r6, r7)) ∧ Aside0 (kq ≤ kj2) ∧ Aside0 (wc.heap[gb235]? = some (.cells #[.string (⟨#[]⟩ : ByteArray), .string (⟨#[]⟩ : ByteArray), .string (⟨#[]⟩ : ByteArray), .string (⟨#[]⟩ : ByteArray), (.slice none 0 0)] 25 (0, 0))) ∧ Aside0 (Below w.heap.size w wc))
      case first =>
       have H := HC22.out
       clear HC22
       by_cases c23 : x5_1 < 0
       ·rw [if_pos c23] at H
        have c23b0 : decide (x5_1 < 0) = true := decide_eq_true c23
        clear c23
        (first | rw [c23b0] | (simp only [i64_w, i32_w]; rw [c23b0]) | skip)
        have H' := Aside0.mk H
        clear H
        go_wp2
        go_meet
        case rel => exact ⟨_, (decide ((l0.length : Int) < 2048)), (by first | rfl | (simp; done) | (simp [*]; done)), H', ⟨by have := HK1.out; have := HJ2.out; first | omega | exact Nat.le_refl _⟩, ⟨by (with_reducible repeat (first | refine blk_drewN ?_ _ | refine blk_drew ?_ | refine blk_alloc ?_ _)); exact BK235.out⟩, ⟨by repeat (first | (with_reducible first | exact HB.out | apply below_alloc | apply pw_below_drewN | apply below_drew1 | refine below_set ?_ GE235.out) | exact HB.out)⟩⟩
       ·rw [if_neg c23] at H
        have c23b0 : decide (x5_1 < 0) = false := decide_eq_false c23
        clear c23
        (first | rw [c23b0] | (simp only [i64_w, i32_w]; rw [c23b0]) | skip)
        have H' := Aside0.mk H
        clear H
        go_wp2
        go_meet
        case rel => exact ⟨_, (false), (by first | rfl | (simp; done) | (simp [*]; done)), H', ⟨by have := HK1.out; have := HJ2.out; first | omega | exact Nat.le_refl _⟩, ⟨by (with_reducible repeat (first | refine blk_drewN ?_ _ | refine blk_drew ?_ | refine blk_alloc ?_ _)); exact BK235.out⟩, ⟨by repeat (first | (with_reducible first | exact HB.out | apply below_alloc | apply pw_below_drewN | apply below_drew1 | refine below_set ?_ GE235.out) | exact HB.out)⟩⟩
      case rest =>
       clear HC22
       try clear c6
       obtain ⟨kq, x68_21, rfl, HA, HJ21, BK235, HB⟩ := hcut
       cases kq with
       | zero => exact absurd HA.out (by simp [tollgateref09_Parse.j2])
       | succ kj21 =>
        have H := HA.out
        clear HA
        simp only [tollgateref09_Parse.j2] at H
        by_cases c24 : x68_21 = true
        ·subst c24
         have H1 : (some ((⟨#[]⟩ : ByteArray), (⟨#[]⟩ : ByteArray), (⟨#[]⟩ : ByteArray), (⟨#[]⟩ : ByteArray), ([] : List (S38)), 0, 3)) = some (r1, r2, r3, r4, r5, r6, r7) := by rw [if_pos rfl] at H; exact H
         clear H
         have H := H1
         clear H1
         simp only [Option.some.injEq, Prod.mk.injEq] at H
         obtain ⟨rfl, rfl, rfl, rfl, rfl, rfl, rfl⟩ := H
         have hcz25_0 : wc.cell? ⟨gb235, 0, none⟩ = some (.string (⟨#[]⟩ : ByteArray)) := (blk_cell BK235.out 0).trans rfl
         have hcz25_1 : wc.cell? ⟨gb235, 1, none⟩ = some (.string (⟨#[]⟩ : ByteArray)) := (blk_cell BK235.out 1).trans rfl
         have hcz25_2 : wc.cell? ⟨gb235, 2, none⟩ = some (.string (⟨#[]⟩ : ByteArray)) := (blk_cell BK235.out 2).trans rfl
         have hcz25_3 : wc.cell? ⟨gb235, 3, none⟩ = some (.string (⟨#[]⟩ : ByteArray)) := (blk_cell BK235.out 3).trans rfl
         have hcz25_4 : wc.cell? ⟨gb235, 4, none⟩ = some (.slice none 0 0) := (blk_cell BK235.out 4).trans rfl
         have hfz25_0 := blk_frozen BK235.out 0
         have hfz25_1 := blk_frozen BK235.out 1
         have hfz25_2 := blk_frozen BK235.out 2
         have hfz25_3 := blk_frozen BK235.out 3
         have hfz25_4 := blk_frozen BK235.out 4
         go_wp2
         refine bodyPost_ret (results_ctt rfl _ _ gb235 25 #[.string (⟨#[]⟩ : ByteArray), .string (⟨#[]⟩ : ByteArray), .string (⟨#[]⟩ : ByteArray), .string (⟨#[]⟩ : ByteArray), .slice none 0 0] (0, 0) _ rfl (by (with_reducible repeat (first | refine blk_drewN ?_ _ | refine blk_drew ?_ | refine blk_alloc ?_ _)); refine blk_put (cs := #[.string (⟨#[]⟩ : ByteArray), .string (⟨#[]⟩ : ByteArray), .string (⟨#[]⟩ : ByteArray), .string (⟨#[]⟩ : ByteArray), .slice none 0 0]) ?_ 4 _ rfl; (with_reducible repeat (first | refine blk_drewN ?_ _ | refine blk_drew ?_ | refine blk_alloc ?_ _)); refine blk_put (cs := #[.string (⟨#[]⟩ : ByteArray), .string (⟨#[]⟩ : ByteArray), .string (⟨#[]⟩ : ByteArray), .string (⟨#[]⟩ : ByteArray), .slice none 0 0]) ?_ 3 _ rfl; (with_reducible repeat (first | refine blk_drewN ?_ _ | refine blk_drew ?_ | refine blk_alloc ?_ _)); refine blk_put (cs := #[.string (⟨#[]⟩ : ByteArray), .string (⟨#[]⟩ : ByteArray), .string (⟨#[]⟩ : ByteArray), .string (⟨#[]⟩ : ByteArray), .slice none 0 0]) ?_ 2 _ rfl; (with_reducible repeat (first | refine blk_drewN ?_ _ | refine blk_drew ?_ | refine blk_alloc ?_ _)); refine blk_put (cs := #[.string (⟨#[]⟩ : ByteArray), .string (⟨#[]⟩ : ByteArray), .string (⟨#[]⟩ : ByteArray), .string (⟨#[]⟩ : ByteArray), .slice none 0 0]) ?_ 1 _ rfl; (with_reducible repeat (first | refine blk_drewN ?_ _ | refine blk_drew ?_ | refine blk_alloc ?_ _)); refine blk_put (cs := #[.string (⟨#[]⟩ : ByteArray), .string (⟨#[]⟩ : ByteArray), .string (⟨#[]⟩ : ByteArray), .string (⟨#[]⟩ : ByteArray), .slice none 0 0]) ?_ 0 _ rfl; (with_reducible repeat (first | refine blk_drewN ?_ _ | refine blk_drew ?_ | refine blk_alloc ?_ _)); exact BK235.out) Tryd.underlying25 rfl (by kernel_rfl)) rfl ?_
         exact ⟨_, by first | rfl | (simp [errW_none, errW_some] <;> rfl) | (simp [*, errW_none, errW_some] <;> rfl), by first | exact Kd.R_nil _ _ _ _ _ | exact Kd.N_nil _ _ _ _ _ | exact Kd.V_nil _ _ _ _ _ | exact Kd.Q_nil _ _ _ _ _ | exact Kd.S_nil _ _ _ _ _, by repeat (first | (with_reducible first | exact HB.out | apply below_alloc | apply pw_below_drewN | apply below_drew1 | refine below_set ?_ GE235.out) | exact HB.out)⟩
        ·replace c24 := Bool.eq_false_iff.mpr c24
         subst c24
         have H1 : (if x5_1 < 0 then (some ((⟨#[]⟩ : ByteArray), (⟨#[]⟩ : ByteArray), (⟨#[]⟩ : ByteArray), (⟨#[]⟩ : ByteArray), ([] : List (S38)), 0, 6)) else (if 0 ≤ x5_1 then (if x5_1 ≤ (l0.length : Int) then ((tollgateref09_lines.f kj21 (strOfNums (l0.take (x5_1 : Int).toNat))).bind fun t241 => (if 0 < (t241.length : Int) then ((ref_first.f kj21 (rdOf ByteArray.empty t241 0)).bind fun bt246 => (if bt246.1 = true then (tollgateref09_Parse.l1 kj21 x5_1 t241 0 1 bt246.2.1 bt246.2.2.1 bt246.2.2.2.1 bt246.2.2.2.2 ([] : List (S38))) else (some ((⟨#[]⟩ : ByteArray), (⟨#[]⟩ : ByteArray), (⟨#[]⟩ : ByteArray), (⟨#[]⟩ : ByteArray), ([] : List (S38)), 0, 4)))) else (none))) else (none)) else (none))) = some (r1, r2, r3, r4, r5, r6, r7) := by rw [if_neg (show ¬ (false = true) by decide)] at H; exact H
         clear H
         have H := H1
         clear H1
         by_cases c26 : x5_1 < 0
         ·rw [if_pos c26] at H
          have c26b0 : decide (x5_1 < 0) = true := decide_eq_true c26
          clear c26
          simp only [Option.some.injEq, Prod.mk.injEq] at H
          obtain ⟨rfl, rfl, rfl, rfl, rfl, rfl, rfl⟩ := H
          have hcz27_0 : wc.cell? ⟨gb235, 0, none⟩ = some (.string (⟨#[]⟩ : ByteArray)) := (blk_cell BK235.out 0).trans rfl
          have hcz27_1 : wc.cell? ⟨gb235, 1, none⟩ = some (.string (⟨#[]⟩ : ByteArray)) := (blk_cell BK235.out 1).trans rfl
          have hcz27_2 : wc.cell? ⟨gb235, 2, none⟩ = some (.string (⟨#[]⟩ : ByteArray)) := (blk_cell BK235.out 2).trans rfl
          have hcz27_3 : wc.cell? ⟨gb235, 3, none⟩ = some (.string (⟨#[]⟩ : ByteArray)) := (blk_cell BK235.out 3).trans rfl
          have hcz27_4 : wc.cell? ⟨gb235, 4, none⟩ = some (.slice none 0 0) := (blk_cell BK235.out 4).trans rfl
          have hfz27_0 := blk_frozen BK235.out 0
          have hfz27_1 := blk_frozen BK235.out 1
          have hfz27_2 := blk_frozen BK235.out 2
          have hfz27_3 := blk_frozen BK235.out 3
          have hfz27_4 := blk_frozen BK235.out 4
          go_wp2
          refine bodyPost_ret (results_ctt rfl _ _ gb235 25 #[.string (⟨#[]⟩ : ByteArray), .string (⟨#[]⟩ : ByteArray), .string (⟨#[]⟩ : ByteArray), .string (⟨#[]⟩ : ByteArray), .slice none 0 0] (0, 0) _ rfl (by (with_reducible repeat (first | refine blk_drewN ?_ _ | refine blk_drew ?_ | refine blk_alloc ?_ _)); refine blk_put (cs := #[.string (⟨#[]⟩ : ByteArray), .string (⟨#[]⟩ : ByteArray), .string (⟨#[]⟩ : ByteArray), .string (⟨#[]⟩ : ByteArray), .slice none 0 0]) ?_ 4 _ rfl; (with_reducible repeat (first | refine blk_drewN ?_ _ | refine blk_drew ?_ | refine blk_alloc ?_ _)); refine blk_put (cs := #[.string (⟨#[]⟩ : ByteArray), .string (⟨#[]⟩ : ByteArray), .string (⟨#[]⟩ : ByteArray), .string (⟨#[]⟩ : ByteArray), .slice none 0 0]) ?_ 3 _ rfl; (with_reducible repeat (first | refine blk_drewN ?_ _ | refine blk_drew ?_ | refine blk_alloc ?_ _)); refine blk_put (cs := #[.string (⟨#[]⟩ : ByteArray), .string (⟨#[]⟩ : ByteArray), .string (⟨#[]⟩ : ByteArray), .string (⟨#[]⟩ : ByteArray), .slice none 0 0]) ?_ 2 _ rfl; (with_reducible repeat (first | refine blk_drewN ?_ _ | refine blk_drew ?_ | refine blk_alloc ?_ _)); refine blk_put (cs := #[.string (⟨#[]⟩ : ByteArray), .string (⟨#[]⟩ : ByteArray), .string (⟨#[]⟩ : ByteArray), .string (⟨#[]⟩ : ByteArray), .slice none 0 0]) ?_ 1 _ rfl; (with_reducible repeat (first | refine blk_drewN ?_ _ | refine blk_drew ?_ | refine blk_alloc ?_ _)); refine blk_put (cs := #[.string (⟨#[]⟩ : ByteArray), .string (⟨#[]⟩ : ByteArray), .string (⟨#[]⟩ : ByteArray), .string (⟨#[]⟩ : ByteArray), .slice none 0 0]) ?_ 0 _ rfl; (with_reducible repeat (first | refine blk_drewN ?_ _ | refine blk_drew ?_ | refine blk_alloc ?_ _)); exact BK235.out) Tryd.underlying25 rfl (by kernel_rfl)) rfl ?_
          exact ⟨_, by first | rfl | (simp [errW_none, errW_some] <;> rfl) | (simp [*, errW_none, errW_some] <;> rfl), by first | exact Kd.R_nil _ _ _ _ _ | exact Kd.N_nil _ _ _ _ _ | exact Kd.V_nil _ _ _ _ _ | exact Kd.Q_nil _ _ _ _ _ | exact Kd.S_nil _ _ _ _ _, by repeat (first | (with_reducible first | exact HB.out | apply below_alloc | apply pw_below_drewN | apply below_drew1 | refine below_set ?_ GE235.out) | exact HB.out)⟩
         ·rw [if_neg c26] at H
          have c26b0 : decide (x5_1 < 0) = false := decide_eq_false c26
          clear c26
          by_cases c28 : 0 ≤ x5_1
          ·rw [if_pos c28] at H
           have c28b0 := eq_true c28
           have c28b1 : decide (0 ≤ x5_1) = true := decide_eq_true c28
           clear c28
           by_cases c29 : x5_1 ≤ (l0.length : Int)
           ·rw [if_pos c29] at H
            have c29b0 := eq_true c29
            have c29b1 : decide (x5_1 ≤ (l0.length : Int)) = true := decide_eq_true c29
            clear c29
            replace H := Option.bind_eq_some_iff.mp H
            obtain ⟨t241, A300, H⟩ := H
            replace H : (if 0 < (t241.length : Int) then ((ref_first.f kj21 (rdOf ByteArray.empty t241 0)).bind fun bt246 => (if bt246.1 = true then (tollgateref09_Parse.l1 kj21 x5_1 t241 0 1 bt246.2.1 bt246.2.2.1 bt246.2.2.2.1 bt246.2.2.2.2 ([] : List (S38))) else (some ((⟨#[]⟩ : ByteArray), (⟨#[]⟩ : ByteArray), (⟨#[]⟩ : ByteArray), (⟨#[]⟩ : ByteArray), ([] : List (S38)), 0, 4)))) else (none)) = some (r1, r2, r3, r4, r5, r6, r7) := H
            have A30 := Aside0.mk A300
            clear A300
            by_cases c31 : 0 < (t241.length : Int)
            ·rw [if_pos c31] at H
             have c31b0 : decide (0 < (t241.length : Int)) = true := decide_eq_true c31
             have c31b1 : decide (0 < t241.length) = true := decide_eq_true (by omega)
             clear c31
             replace H := Option.bind_eq_some_iff.mp H
             obtain ⟨⟨t246, t247, t248, t249, t250⟩, A320, H⟩ := H
             replace H : (if t246 = true then (tollgateref09_Parse.l1 kj21 x5_1 t241 0 1 t247 t248 t249 t250 ([] : List (S38))) else (some ((⟨#[]⟩ : ByteArray), (⟨#[]⟩ : ByteArray), (⟨#[]⟩ : ByteArray), (⟨#[]⟩ : ByteArray), ([] : List (S38)), 0, 4))) = some (r1, r2, r3, r4, r5, r6, r7) := H
             have A32 := Aside0.mk A320
             clear A320
             by_cases c33 : t246 = true
             ·subst c33
              have H1 : (tollgateref09_Parse.l1 kj21 x5_1 t241 0 1 t247 t248 t249 t250 ([] : List (S38))) = some (r1, r2, r3, r4, r5, r6, r7) := by rw [if_pos rfl] at H; exact H
              clear H
              have H := H1
              clear H1
              have H' := Aside0.mk H
              clear H
              obtain ⟨i034, hi034, _, hsz34, _⟩ := info_parts info5
              obtain ⟨hcut34, hA34, hC34⟩ := print_take_of (P := Tryd.prog) (Value.int .u8) 0 22 5 .i64 Tryd.underlying22 hi034 hsz34 A0 c0 l0 x5_1 (of_decide_eq_true (by first | (with_reducible assumption) | assumption)) (of_decide_eq_true (by first | (with_reducible assumption) | assumption)) HC0.out
              have HR240 := Aside0.mk (Kd.C_of_reads (h1 := fun _ => rfl) (hA34 _ (Kd.reads_of_C HR0.out)))
              have HC240 := Aside0.mk hC34
              clear hA34 hC34 hi034 hsz34
              have hcv35 := Kd.C_string (P := Tryd.prog) (A := A0) (c := c0) Tryd.underlying22 Tryd.underlying5 Tryd.underlying9 (Kd.C_below HR240.out HB.out)
              (try (have hcv35d := fun m_ : Nat => Kd.C_string (P := Tryd.prog) (A := A0) (c := c0) Tryd.underlying22 Tryd.underlying5 Tryd.underlying9 (Kd.C_drewN ((Kd.C_below HR240.out HB.out)) m_)))
              (try (have hcv35l := hcv35; rw [show (l0.take (x5_1 : Int).toNat).length = x5_1.toNat from (by rw [List.length_take]; have h_ : (x5_1 : Int) ≤ (l0.length : Int) := of_decide_eq_true (by first | (with_reducible assumption) | assumption); omega)] at hcv35l))
              go_wp2_with (first | ((with_reducible refine gate_callee (f := 42) rfl ?_); refine goesL_ (some 77) rfl rfl Tryd.func42 (by kernel_rfl) rfl #[.string (strOfNums (l0.take (x5_1 : Int).toNat))] rfl (by (try simp only [List.map_toArray, List.map_cons, List.map_nil]); first | done | rfl | (simp only [List.length_drop, List.length_take]; rfl)) ?_; (with_reducible refine (tollgateref09_lines.calls kj21 (strOfNums (l0.take (x5_1 : Int).toNat)) t241 _ A30.out).mono ?_); rintro e w36 ⟨v242, rfl, ho0, hb⟩; refine ⟨_, rfl, ?_⟩; have n0_ := Aside0.mk (Kd.R_lower ho0 (below_size (by repeat (first | (with_reducible first | exact HB.out | apply below_alloc | apply pw_below_drewN | apply below_drew1 | refine below_set ?_ GE235.out) | exact HB.out)))); have n1_ := Aside0.mk (blk_below (g := gb235) (o := .cells #[.string (⟨#[]⟩ : ByteArray), .string (⟨#[]⟩ : ByteArray), .string (⟨#[]⟩ : ByteArray), .string (⟨#[]⟩ : ByteArray), .slice none 0 0] 25 (0, 0)) (by (with_reducible repeat (first | refine blk_drewN ?_ _ | refine blk_drew ?_ | refine blk_alloc ?_ _)); exact BK235.out) hb); have n2_ := Aside0.mk (below_step (by repeat (first | (with_reducible first | exact HB.out | apply below_alloc | apply pw_below_drewN | apply below_drew1 | refine below_set ?_ GE235.out) | exact HB.out)) hb); clear BK235; clear HB; have HO243 := n0_; have BK235 := n1_; have HB := n2_; clear n0_ n1_ n2_; (try clear hb); (try clear hb2); (try clear hk); (try clear hi); (try clear ho0)) | ((with_reducible refine gate_dst (N := 8) rfl ?_); (try (refine gate_guard (by rfl) ?_; dsimp only)); refine box_event ?hg (N := 8) ?hd (cs := #[.string (⟨#[]⟩ : ByteArray), .string (⟨#[]⟩ : ByteArray), .string (⟨#[]⟩ : ByteArray), .string (⟨#[]⟩ : ByteArray), .slice none 0 0]) (t := 25) ?hr ?_; (case hd => rfl); (case hg => rfl); (case hr => first | (go_simp; done) | (go_simp; rfl)); intro gb244 hg w37 hbox hb; have n0_ := Aside0.mk (Kd.R_below (by (with_reducible repeat (first | apply Kd.R_alloc | apply Kd.R_drewN | apply Kd.R_drew)); exact HO243.out) hb); have n1_ := Aside0.mk (blk_below (g := gb235) (o := .cells #[.string (⟨#[]⟩ : ByteArray), .string (⟨#[]⟩ : ByteArray), .string (⟨#[]⟩ : ByteArray), .string (⟨#[]⟩ : ByteArray), .slice none 0 0] 25 (0, 0)) (by (with_reducible repeat (first | refine blk_drewN ?_ _ | refine blk_drew ?_ | refine blk_alloc ?_ _)); exact BK235.out) hb); have n2_ := Aside0.mk (below_step (by repeat (first | (with_reducible first | exact HB.out | apply below_alloc | apply pw_below_drewN | apply below_drew1 | refine below_set ?_ GE235.out) | exact HB.out)) hb); have n3_ := Aside0.mk (hbox); have n4_ := Aside0.mk ((by rw [hg]; exact (below_size (by repeat (first | (with_reducible first | exact HB.out | apply below_alloc | apply pw_below_drewN | apply below_drew1 | refine below_set ?_ GE235.out) | exact HB.out))) : w.heap.size ≤ gb244)); have n5_ := Aside0.mk ((by rw [hg]; exact (below_size (by repeat (first | (with_reducible first | exact HB.out | apply below_alloc | apply pw_below_drewN | apply below_drew1 | refine below_set ?_ GE235.out) | exact HB.out))) : w.heap.size ≤ gb244)); have n6_ := Aside0.mk ((by rw [hg]; exact Nat.ne_of_lt (blk_lt (g := gb235) (o := .cells #[.string (⟨#[]⟩ : ByteArray), .string (⟨#[]⟩ : ByteArray), .string (⟨#[]⟩ : ByteArray), .string (⟨#[]⟩ : ByteArray), .slice none 0 0] 25 (0, 0)) (by (with_reducible repeat (first | refine blk_drewN ?_ _ | refine blk_drew ?_ | refine blk_alloc ?_ _)); exact BK235.out)) : gb235 ≠ gb244)); have n7_ := Aside0.mk ((by rw [hg]; exact Nat.ne_of_gt (blk_lt (g := gb235) (o := .cells #[.string (⟨#[]⟩ : ByteArray), .string (⟨#[]⟩ : ByteArray), .string (⟨#[]⟩ : ByteArray), .string (⟨#[]⟩ : ByteArray), .slice none 0 0] 25 (0, 0)) (by (with_reducible repeat (first | refine blk_drewN ?_ _ | refine blk_drew ?_ | refine blk_alloc ?_ _)); exact BK235.out)) : gb244 ≠ gb235)); clear HO243; clear BK235; clear HB; have HO243 := n0_; have BK235 := n1_; have HB := n2_; have BK244 := n3_; have GW244 := n4_; have GE244 := n5_; have NB235_244 := n6_; have NB244_235 := n7_; clear n0_ n1_ n2_ n3_ n4_ n5_ n6_ n7_; clear hb hbox hg; have hnb38 := NB244_235.out; have hnc38 := NB235_244.out; have hcz39_0 : w37.cell? ⟨gb244, 0, none⟩ = some (.string (⟨#[]⟩ : ByteArray)) := (blk_cell BK244.out 0).trans rfl; have hcz39_1 : w37.cell? ⟨gb244, 1, none⟩ = some (.string (⟨#[]⟩ : ByteArray)) := (blk_cell BK244.out 1).trans rfl; have hcz39_2 : w37.cell? ⟨gb244, 2, none⟩ = some (.string (⟨#[]⟩ : ByteArray)) := (blk_cell BK244.out 2).trans rfl; have hcz39_3 : w37.cell? ⟨gb244, 3, none⟩ = some (.string (⟨#[]⟩ : ByteArray)) := (blk_cell BK244.out 3).trans rfl; have hcz39_4 : w37.cell? ⟨gb244, 4, none⟩ = some (.slice none 0 0) := (blk_cell BK244.out 4).trans rfl; have hfz39_0 := blk_frozen BK244.out 0; have hfz39_1 := blk_frozen BK244.out 1; have hfz39_2 := blk_frozen BK244.out 2; have hfz39_3 := blk_frozen BK244.out 3; have hfz39_4 := blk_frozen BK244.out 4; obtain ⟨Ao40, co40, eo40⟩ := Kd.R_slice HO243.out; subst eo40; have p245 : 0 ≤ (0 : Int) := (by omega); have q245 : 0 < (t241.length : Int) := of_decide_eq_true (by first | (with_reducible assumption) | assumption); obtain ⟨ad245, e245, hx245_0⟩ := Kd.at_string (Kd.R_reads' HO243.out).2.2 0 p245 q245; cases e245; have qi245 : (0 < t241.length) = True := eq_true (by omega); (try rw [show ((0 : Int)).toNat = 0 from rfl] at hx245_0); (try rw [Addr.add_zero'] at hx245_0); have hn245_0 : ad245.block ≠ gb244 := Kd.own_blk (Kd.R_ne HO243.out BK244.out (by decide)); have hn245_1 : ad245.block ≠ gb244 := Kd.own_blk (Kd.R_ne HO243.out BK244.out (by decide)); have hn245_2 : ad245.block ≠ gb244 := Kd.own_blk (Kd.R_ne HO243.out BK244.out (by decide)); have hn245_3 : ad245.block ≠ gb244 := Kd.own_blk (Kd.R_ne HO243.out BK244.out (by decide)); have hn245_4 : ad245.block ≠ gb244 := Kd.own_blk (Kd.R_ne HO243.out BK244.out (by decide)); replace hx245_0 := (cell_far (p := ⟨gb244, 0, none⟩) (by first | (rw [add_block]; exact hn245_0) | (show (Addr.add _ _).block ≠ _; rw [add_block]; exact hn245_0) | exact hn245_0) (.string (⟨#[]⟩ : ByteArray))).trans hx245_0; replace hx245_0 := (cell_far (p := ⟨gb244, 1, none⟩) (by first | (rw [add_block]; exact hn245_1) | (show (Addr.add _ _).block ≠ _; rw [add_block]; exact hn245_1) | exact hn245_1) (.string (⟨#[]⟩ : ByteArray))).trans hx245_0; replace hx245_0 := (cell_far (p := ⟨gb244, 2, none⟩) (by first | (rw [add_block]; exact hn245_2) | (show (Addr.add _ _).block ≠ _; rw [add_block]; exact hn245_2) | exact hn245_2) (.string (⟨#[]⟩ : ByteArray))).trans hx245_0; replace hx245_0 := (cell_far (p := ⟨gb244, 3, none⟩) (by first | (rw [add_block]; exact hn245_3) | (show (Addr.add _ _).block ≠ _; rw [add_block]; exact hn245_3) | exact hn245_3) (.string (⟨#[]⟩ : ByteArray))).trans hx245_0; replace hx245_0 := (cell_far (p := ⟨gb244, 4, none⟩) (by first | (rw [add_block]; exact hn245_4) | (show (Addr.add _ _).block ≠ _; rw [add_block]; exact hn245_4) | exact hn245_4) (.slice none 0 0)).trans hx245_0; clear hn245_0; clear hn245_1; clear hn245_2; clear hn245_3; clear hn245_4; replace p245 := eq_true p245; replace q245 := eq_true q245) | ((with_reducible refine gate_callee (f := 43) rfl ?_); refine goesL_ (some 82) rfl rfl Tryd.func43 (by kernel_rfl) rfl #[.string (rdOf ByteArray.empty t241 0), .pointer (some ⟨gb244, 0, none⟩)] rfl (by (try simp only [List.map_toArray, List.map_cons, List.map_nil]); first | done | rfl | (simp only [List.length_drop, List.length_take]; rfl)) ?_; have hI_ := (Kd.R_far (p := ⟨gb244, 4, none⟩) (Kd.R_far (p := ⟨gb244, 3, none⟩) (Kd.R_far (p := ⟨gb244, 2, none⟩) (Kd.R_far (p := ⟨gb244, 1, none⟩) (Kd.R_far (p := ⟨gb244, 0, none⟩) (Kd.R_types HO243.out BK244.out (by decide)) (fun _ hk => hk.2) (.string (⟨#[]⟩ : ByteArray))) (fun _ hk => hk.2) (.string (⟨#[]⟩ : ByteArray))) (fun _ hk => hk.2) (.string (⟨#[]⟩ : ByteArray))) (fun _ hk => hk.2) (.string (⟨#[]⟩ : ByteArray))) (fun _ hk => hk.2) (.slice none 0 0)); (with_reducible refine (ref_first.box kj21 (rdOf ByteArray.empty t241 0) gb244 true t247 t248 t249 t250 w _ ?side1 GE244.out ?side2 A32.out).mono ?_); (case side1 => exact (by (with_reducible repeat (first | refine blk_drewN ?_ _ | refine blk_drew ?_ | refine blk_alloc ?_ _)); refine blk_put (cs := #[.string (⟨#[]⟩ : ByteArray), .string (⟨#[]⟩ : ByteArray), .string (⟨#[]⟩ : ByteArray), .string (⟨#[]⟩ : ByteArray), .slice none 0 0]) ?_ 4 _ rfl; (with_reducible repeat (first | refine blk_drewN ?_ _ | refine blk_drew ?_ | refine blk_alloc ?_ _)); refine blk_put (cs := #[.string (⟨#[]⟩ : ByteArray), .string (⟨#[]⟩ : ByteArray), .string (⟨#[]⟩ : ByteArray), .string (⟨#[]⟩ : ByteArray), .slice none 0 0]) ?_ 3 _ rfl; (with_reducible repeat (first | refine blk_drewN ?_ _ | refine blk_drew ?_ | refine blk_alloc ?_ _)); refine blk_put (cs := #[.string (⟨#[]⟩ : ByteArray), .string (⟨#[]⟩ : ByteArray), .string (⟨#[]⟩ : ByteArray), .string (⟨#[]⟩ : ByteArray), .slice none 0 0]) ?_ 2 _ rfl; (with_reducible repeat (first | refine blk_drewN ?_ _ | refine blk_drew ?_ | refine blk_alloc ?_ _)); refine blk_put (cs := #[.string (⟨#[]⟩ : ByteArray), .string (⟨#[]⟩ : ByteArray), .string (⟨#[]⟩ : ByteArray), .string (⟨#[]⟩ : ByteArray), .slice none 0 0]) ?_ 1 _ rfl; (with_reducible repeat (first | refine blk_drewN ?_ _ | refine blk_drew ?_ | refine blk_alloc ?_ _)); refine blk_put (cs := #[.string (⟨#[]⟩ : ByteArray), .string (⟨#[]⟩ : ByteArray), .string (⟨#[]⟩ : ByteArray), .string (⟨#[]⟩ : ByteArray), .slice none 0 0]) ?_ 0 _ rfl; (with_reducible repeat (first | refine blk_drewN ?_ _ | refine blk_drew ?_ | refine blk_alloc ?_ _)); exact BK244.out)); (case side2 => exact (by repeat (first | (with_reducible first | exact HB.out | apply below_alloc | apply pw_below_drewN | apply below_drew1 | refine below_set ?_ GE235.out | refine below_set ?_ GE244.out) | exact HB.out))); rintro e w41 ⟨rfl, hbox_, hbel_, hkeep_⟩; refine ⟨_, rfl, ?_⟩; have n0_ := Aside0.mk (Kd.R_mono (keepR hI_ hkeep_ (fun _ hk => hk.2)) (fun _ h_ => h_.1)); have n1_ := Aside0.mk (blk_keepB (g := gb235) (o := .cells #[.string (⟨#[]⟩ : ByteArray), .string (⟨#[]⟩ : ByteArray), .string (⟨#[]⟩ : ByteArray), .string (⟨#[]⟩ : ByteArray), .slice none 0 0] 25 (0, 0)) (by (with_reducible repeat (first | refine blk_drewN ?_ _ | refine blk_drew ?_ | refine blk_alloc ?_ _)); refine blk_far ?_ NB235_244.out _; (with_reducible repeat (first | refine blk_drewN ?_ _ | refine blk_drew ?_ | refine blk_alloc ?_ _)); refine blk_far ?_ NB235_244.out _; (with_reducible repeat (first | refine blk_drewN ?_ _ | refine blk_drew ?_ | refine blk_alloc ?_ _)); refine blk_far ?_ NB235_244.out _; (with_reducible repeat (first | refine blk_drewN ?_ _ | refine blk_drew ?_ | refine blk_alloc ?_ _)); refine blk_far ?_ NB235_244.out _; (with_reducible repeat (first | refine blk_drewN ?_ _ | refine blk_drew ?_ | refine blk_alloc ?_ _)); refine blk_far ?_ NB235_244.out _; (with_reducible repeat (first | refine blk_drewN ?_ _ | refine blk_drew ?_ | refine blk_alloc ?_ _)); exact BK235.out) hkeep_ NB235_244.out); have n2_ := Aside0.mk hbox_; have n3_ := Aside0.mk hbel_; clear hI_ hbox_ hbel_ hkeep_; clear HO243; clear BK235; clear BK244; clear HB; have HO243 := n0_; have BK235 := n1_; have BK244 := n2_; have HB := n3_; clear n0_ n1_ n2_ n3_; (try clear hb); (try clear hb2); (try clear hk); (try clear hi); have hcz42_0 : w41.cell? ⟨gb244, 0, none⟩ = some (.string t247) := (blk_cell BK244.out 0).trans rfl; have hcz42_1 : w41.cell? ⟨gb244, 1, none⟩ = some (.string t248) := (blk_cell BK244.out 1).trans rfl; have hcz42_2 : w41.cell? ⟨gb244, 2, none⟩ = some (.string t249) := (blk_cell BK244.out 2).trans rfl; have hcz42_3 : w41.cell? ⟨gb244, 3, none⟩ = some (.string t250) := (blk_cell BK244.out 3).trans rfl; have hcz42_4 : w41.cell? ⟨gb244, 4, none⟩ = some (.slice none 0 0) := (blk_cell BK244.out 4).trans rfl; have hfz42_0 := blk_frozen BK244.out 0; have hfz42_1 := blk_frozen BK244.out 1; have hfz42_2 := blk_frozen BK244.out 2; have hfz42_3 := blk_frozen BK244.out 3; have hfz42_4 := blk_frozen BK244.out 4))
              go_loopg [9, 10] kj21 (fun kq v9 v10 w' => ∃ (x9_4 : Int) (x10_4 : Int) (x236000_4 : ByteArray) (x236001_4 : ByteArray) (x236002_4 : ByteArray) (x236003_4 : ByteArray) (x245003_4 : ByteArray) (x245004_4 : List (S38)) (u245004 : Value), v9 = .int .i64 x9_4 ∧ v10 = .int .i64 x10_4 ∧ Aside0 (tollgateref09_Parse.l1 kq x5_1 t241 x9_4 x10_4 t247 t248 t249 x245003_4 x245004_4 = some (r1, r2, r3, r4, r5, r6, r7)) ∧ Aside0 (kq ≤ kj21) ∧ Aside0 (Kd.R Kd.string 9 w' w.heap.size (fun _ => True) (.slice (some ad245) t241.length co40) t241) ∧ Aside0 (Kd.R k38 38 w' w.heap.size (fun _ => True) u245004 x245004_4) ∧ Aside0 (w'.heap[gb235]? = some (.cells #[.string x236000_4, .string x236001_4, .string x236002_4, .string x236003_4, (.slice none 0 0)] 25 (0, 0))) ∧ Aside0 (w'.heap[gb244]? = some (.cells #[.string t247, .string t248, .string t249, .string x245003_4, u245004] 25 (0, 0))) ∧ Aside0 (Below w.heap.size w w'))
              case atStart => exact ⟨(0), (1), ((⟨#[]⟩ : ByteArray)), ((⟨#[]⟩ : ByteArray)), ((⟨#[]⟩ : ByteArray)), ((⟨#[]⟩ : ByteArray)), (t250), (([] : List (S38))), (.slice none 0 0), (by first | rfl | (simp; done) | (simp [*]; done)), (by first | rfl | (simp; done) | (simp [*]; done)), H', ⟨Nat.le_refl _⟩, ⟨by (with_reducible repeat (first | apply Kd.R_alloc | apply Kd.R_drewN | apply Kd.R_drew)); exact Kd.R_mono HO243.out (fun _ _ => trivial)⟩, ⟨by first | exact Kd.R_nil _ _ _ _ _ | exact Kd.N_nil _ _ _ _ _ | exact Kd.V_nil _ _ _ _ _ | exact Kd.Q_nil _ _ _ _ _ | exact Kd.S_nil _ _ _ _ _⟩, ⟨by (with_reducible repeat (first | refine blk_drewN ?_ _ | refine blk_drew ?_ | refine blk_alloc ?_ _)); exact BK235.out⟩, ⟨by (with_reducible repeat (first | refine blk_drewN ?_ _ | refine blk_drew ?_ | refine blk_alloc ?_ _)); exact BK244.out⟩, ⟨by repeat (first | (with_reducible first | exact HB.out | apply below_alloc | apply pw_below_drewN | apply below_drew1 | refine below_set ?_ GE235.out | refine below_set ?_ GE244.out) | exact HB.out)⟩⟩
              case round =>
               clear H'
               try clear c6
               try clear c24
               try clear c26
               try clear c26b0
               try clear c28
               try clear c28b0
               try clear c28b1
               try clear c29
               try clear c29b0
               try clear c29b1
               try clear c31
               try clear c31b0
               try clear c31b1
               try clear c33
               try clear hcv35
               try clear hcz39_0
               try clear hcz39_1
               try clear hcz39_2
               try clear hcz39_3
               try clear hcz39_4
               try clear hcz42_0
               try clear hcz42_1
               try clear hcz42_2
               try clear hcz42_3
               try clear hcz42_4
               try clear hfz39_0
               try clear hfz39_1
               try clear hfz39_2
               try clear hfz39_3
               try clear hfz39_4
               try clear hfz42_0
               try clear hfz42_1
               try clear hfz42_2
               try clear hfz42_3
               try clear hfz42_4
               try clear hx245_0
               try clear p245
               try clear q245
               obtain ⟨x9_4, x10_4, x236000_4, x236001_4, x236002_4, x236003_4, x245003_4, x245004_4, u245004, rfl, rfl, HA, HK4, HO_7, HO_245004, BK235, BK244, HB⟩ := hrel
               cases gk with
               | zero => exact absurd HA.out (by simp [tollgateref09_Parse.l1])
               | succ k4 =>
                have H := HA.out
                clear HA
                simp only [tollgateref09_Parse.l1] at H
                by_cases c43 : x10_4 < (t241.length : Int)
                ·rw [if_pos c43] at H
                 have c43b0 : decide (x10_4 < (t241.length : Int)) = true := decide_eq_true c43
                 clear c43
                 by_cases c44 : 0 ≤ x10_4
                 ·rw [if_pos c44] at H
                  have c44b0 : decide (0 ≤ x10_4) = true := decide_eq_true c44
                  clear c44
                  replace H := Option.bind_eq_some_iff.mp H
                  obtain ⟨⟨t252, t253, t254⟩, A450, H⟩ := H
                  replace H : ((tollgateref09_trimmed.f k4 t253).bind fun t255 => (if t254 = true then ((tollgateref09_Token.f k4 t252).bind fun t256 => (if t256 = true then ((tollgateref09_Value.f k4 t255).bind fun t257 => (tollgateref09_Parse.j4 k4 x5_1 t241 x9_4 x10_4 t252 t255 (!t257) t247 t248 t249 x245003_4 x245004_4)) else (tollgateref09_Parse.j4 k4 x5_1 t241 x9_4 x10_4 t252 t255 true t247 t248 t249 x245003_4 x245004_4))) else (tollgateref09_Parse.j4 k4 x5_1 t241 x9_4 x10_4 t252 t255 true t247 t248 t249 x245003_4 x245004_4))) = some (r1, r2, r3, r4, r5, r6, r7) := H
                  have A45 := Aside0.mk A450
                  clear A450
                  replace H := Option.bind_eq_some_iff.mp H
                  obtain ⟨t255, A460, H⟩ := H
                  replace H : (if t254 = true then ((tollgateref09_Token.f k4 t252).bind fun t256 => (if t256 = true then ((tollgateref09_Value.f k4 t255).bind fun t257 => (tollgateref09_Parse.j4 k4 x5_1 t241 x9_4 x10_4 t252 t255 (!t257) t247 t248 t249 x245003_4 x245004_4)) else (tollgateref09_Parse.j4 k4 x5_1 t241 x9_4 x10_4 t252 t255 true t247 t248 t249 x245003_4 x245004_4))) else (tollgateref09_Parse.j4 k4 x5_1 t241 x9_4 x10_4 t252 t255 true t247 t248 t249 x245003_4 x245004_4)) = some (r1, r2, r3, r4, r5, r6, r7) := H
                  have A46 := Aside0.mk A460
                  clear A460
                  have HC47 := Aside0.mk H
                  clear H
                  have p251 : 0 ≤ (x10_4 : Int) := of_decide_eq_true (by first | (with_reducible assumption) | assumption)
                  have q251 : x10_4 < (t241.length : Int) := of_decide_eq_true (by first | (with_reducible assumption) | assumption)
                  obtain ⟨ad251, e251, hx251_0⟩ := Kd.at_string (Kd.R_reads' HO_7.out).2.2 x10_4 p251 q251
                  obtain rfl : ad245 = ad251 := (by injection e251)
                  replace p251 := eq_true p251
                  replace q251 := eq_true q251
                  go_upto_region 21 with (first | ((with_reducible refine gate_callee (f := 44) rfl ?_); refine goesL_ (some 96) rfl rfl Tryd.func44 (by kernel_rfl) rfl #[.string (rdOf ByteArray.empty t241 x10_4), .int .u8 58] rfl (by (try simp only [List.map_toArray, List.map_cons, List.map_nil]); first | done | rfl | (simp only [List.length_drop, List.length_take]; rfl)) ?_; (with_reducible refine (tollgateref09_cut.calls k4 (rdOf ByteArray.empty t241 x10_4) 58 t252 t253 t254 _ A45.out).mono ?_); rintro e w' ⟨rfl, ⟨nd, rfl⟩⟩; refine ⟨_, rfl, ?_⟩) | ((with_reducible refine gate_callee (f := 45) rfl ?_); refine goesL_ (some 101) rfl rfl Tryd.func45 (by kernel_rfl) rfl #[.string t253] rfl (by (try simp only [List.map_toArray, List.map_cons, List.map_nil]); first | done | rfl | (simp only [List.length_drop, List.length_take]; rfl)) ?_; (with_reducible refine (tollgateref09_trimmed.calls k4 t253 t255 _ A46.out).mono ?_); rintro e w' ⟨rfl, ⟨nd, rfl⟩⟩; refine ⟨_, rfl, ?_⟩))
                  (try simp only [Act.put, List.setIfInBounds_toArray, List.set_cons_zero, List.set_cons_succ])
                  go_cut [113] (fun v113 wc => ∃ (kq : Nat) (x113_46 : Bool), v113 = .bool x113_46 ∧ Aside0 (tollgateref09_Parse.j4 kq x5_1 t241 x9_4 x10_4 t252 t255 x113_46 t247 t248 t249 x245003_4 x245004_4 = some (r1, r2, r3, r4, r5, r6, r7)) ∧ Aside0 (kq ≤ k4) ∧ Aside0 (Kd.R Kd.string 9 wc w.heap.size (fun _ => True) (.slice (some ad245) t241.length co40) t241) ∧ Aside0 (Kd.R k38 38 wc w.heap.size (fun _ => True) u245004 x245004_4) ∧ Aside0 (wc.heap[gb235]? = some (.cells #[.string x236000_4, .string x236001_4, .string x236002_4, .string x236003_4, (.slice none 0 0)] 25 (0, 0))) ∧ Aside0 (wc.heap[gb244]? = some (.cells #[.string t247, .string t248, .string t249, .string x245003_4, u245004] 25 (0, 0))) ∧ Aside0 (Below w.heap.size w wc))
                  case first =>
                   have H := HC47.out
                   clear HC47
                   by_cases c48 : t254 = true
                   ·subst c48
                    have H1 : ((tollgateref09_Token.f k4 t252).bind fun t256 => (if t256 = true then ((tollgateref09_Value.f k4 t255).bind fun t257 => (tollgateref09_Parse.j4 k4 x5_1 t241 x9_4 x10_4 t252 t255 (!t257) t247 t248 t249 x245003_4 x245004_4)) else (tollgateref09_Parse.j4 k4 x5_1 t241 x9_4 x10_4 t252 t255 true t247 t248 t249 x245003_4 x245004_4))) = some (r1, r2, r3, r4, r5, r6, r7) := by rw [if_pos rfl] at H; exact H
                    clear H
                    have H := H1
                    clear H1
                    replace H := Option.bind_eq_some_iff.mp H
                    obtain ⟨t256, A490, H⟩ := H
                    replace H : (if t256 = true then ((tollgateref09_Value.f k4 t255).bind fun t257 => (tollgateref09_Parse.j4 k4 x5_1 t241 x9_4 x10_4 t252 t255 (!t257) t247 t248 t249 x245003_4 x245004_4)) else (tollgateref09_Parse.j4 k4 x5_1 t241 x9_4 x10_4 t252 t255 true t247 t248 t249 x245003_4 x245004_4)) = some (r1, r2, r3, r4, r5, r6, r7) := H
                    have A49 := Aside0.mk A490
                    clear A490
                    by_cases c50 : t256 = true
                    ·subst c50
                     have H1 : ((tollgateref09_Value.f k4 t255).bind fun t257 => (tollgateref09_Parse.j4 k4 x5_1 t241 x9_4 x10_4 t252 t255 (!t257) t247 t248 t249 x245003_4 x245004_4)) = some (r1, r2, r3, r4, r5, r6, r7) := by rw [if_pos rfl] at H; exact H
                     clear H
                     have H := H1
                     clear H1
                     replace H := Option.bind_eq_some_iff.mp H
                     obtain ⟨t257, A510, H⟩ := H
                     replace H : (tollgateref09_Parse.j4 k4 x5_1 t241 x9_4 x10_4 t252 t255 (!t257) t247 t248 t249 x245003_4 x245004_4) = some (r1, r2, r3, r4, r5, r6, r7) := H
                     have A51 := Aside0.mk A510
                     clear A510
                     have H' := Aside0.mk H
                     clear H
                     go_wp2_with (first | (go_at_call 46; (with_reducible refine (tollgateref09_Token.calls k4 t252 true _ A49.out).mono ?_); rintro e w' ⟨rfl, ⟨nd, rfl⟩⟩) | (go_at_call 47; (with_reducible refine (tollgateref09_Value.calls k4 t255 t257 _ A51.out).mono ?_); rintro e w' ⟨rfl, ⟨nd, rfl⟩⟩))
                     go_meet
                     case rel => exact ⟨_, (!t257), (by first | rfl | (simp; done) | (simp [*]; done)), H', ⟨by have := HK1.out; have := HJ2.out; have := HJ21.out; have := HK4.out; first | omega | exact Nat.le_refl _⟩, ⟨by (with_reducible repeat (first | apply Kd.R_alloc | apply Kd.R_drewN | apply Kd.R_drew)); exact HO_7.out⟩, ⟨by (with_reducible repeat (first | apply Kd.R_alloc | apply Kd.R_drewN | apply Kd.R_drew)); exact HO_245004.out⟩, ⟨by (with_reducible repeat (first | refine blk_drewN ?_ _ | refine blk_drew ?_ | refine blk_alloc ?_ _)); exact BK235.out⟩, ⟨by (with_reducible repeat (first | refine blk_drewN ?_ _ | refine blk_drew ?_ | refine blk_alloc ?_ _)); exact BK244.out⟩, ⟨by repeat (first | (with_reducible first | exact HB.out | apply below_alloc | apply pw_below_drewN | apply below_drew1 | refine below_set ?_ GE235.out | refine below_set ?_ GE244.out) | exact HB.out)⟩⟩
                    ·replace c50 := Bool.eq_false_iff.mpr c50
                     subst c50
                     have H1 : (tollgateref09_Parse.j4 k4 x5_1 t241 x9_4 x10_4 t252 t255 true t247 t248 t249 x245003_4 x245004_4) = some (r1, r2, r3, r4, r5, r6, r7) := by rw [if_neg (show ¬ (false = true) by decide)] at H; exact H
                     clear H
                     have H := H1
                     clear H1
                     have H' := Aside0.mk H
                     clear H
                     go_wp2_with (first | (go_at_call 46; (with_reducible refine (tollgateref09_Token.calls k4 t252 false _ A49.out).mono ?_); rintro e w' ⟨rfl, ⟨nd, rfl⟩⟩))
                     go_meet
                     case rel => exact ⟨_, (true), (by first | rfl | (simp; done) | (simp [*]; done)), H', ⟨by have := HK1.out; have := HJ2.out; have := HJ21.out; have := HK4.out; first | omega | exact Nat.le_refl _⟩, ⟨by (with_reducible repeat (first | apply Kd.R_alloc | apply Kd.R_drewN | apply Kd.R_drew)); exact HO_7.out⟩, ⟨by (with_reducible repeat (first | apply Kd.R_alloc | apply Kd.R_drewN | apply Kd.R_drew)); exact HO_245004.out⟩, ⟨by (with_reducible repeat (first | refine blk_drewN ?_ _ | refine blk_drew ?_ | refine blk_alloc ?_ _)); exact BK235.out⟩, ⟨by (with_reducible repeat (first | refine blk_drewN ?_ _ | refine blk_drew ?_ | refine blk_alloc ?_ _)); exact BK244.out⟩, ⟨by repeat (first | (with_reducible first | exact HB.out | apply below_alloc | apply pw_below_drewN | apply below_drew1 | refine below_set ?_ GE235.out | refine below_set ?_ GE244.out) | exact HB.out)⟩⟩
                   ·replace c48 := Bool.eq_false_iff.mpr c48
                    subst c48
                    have H1 : (tollgateref09_Parse.j4 k4 x5_1 t241 x9_4 x10_4 t252 t255 true t247 t248 t249 x245003_4 x245004_4) = some (r1, r2, r3, r4, r5, r6, r7) := by rw [if_neg (show ¬ (false = true) by decide)] at H; exact H
                    clear H
                    have H := H1
                    clear H1
                    have H' := Aside0.mk H
                    clear H
                    go_wp2
                    go_meet
                    case rel => exact ⟨_, (true), (by first | rfl | (simp; done) | (simp [*]; done)), H', ⟨by have := HK1.out; have := HJ2.out; have := HJ21.out; have := HK4.out; first | omega | exact Nat.le_refl _⟩, ⟨by (with_reducible repeat (first | apply Kd.R_alloc | apply Kd.R_drewN | apply Kd.R_drew)); exact HO_7.out⟩, ⟨by (with_reducible repeat (first | apply Kd.R_alloc | apply Kd.R_drewN | apply Kd.R_drew)); exact HO_245004.out⟩, ⟨by (with_reducible repeat (first | refine blk_drewN ?_ _ | refine blk_drew ?_ | refine blk_alloc ?_ _)); exact BK235.out⟩, ⟨by (with_reducible repeat (first | refine blk_drewN ?_ _ | refine blk_drew ?_ | refine blk_alloc ?_ _)); exact BK244.out⟩, ⟨by repeat (first | (with_reducible first | exact HB.out | apply below_alloc | apply pw_below_drewN | apply below_drew1 | refine below_set ?_ GE235.out | refine below_set ?_ GE244.out) | exact HB.out)⟩⟩
                  case rest =>
                   clear HC47
                   try clear c6
                   try clear c24
                   try clear c26
                   try clear c26b0
                   try clear c28
                   try clear c28b0
                   try clear c28b1
                   try clear c29
                   try clear c29b0
                   try clear c29b1
                   try clear c31
                   try clear c31b0
                   try clear c31b1
                   try clear c33
                   try clear hcv35
                   try clear c43
                   try clear c43b0
                   try clear c44
                   try clear c44b0
                   try clear hcz39_0
                   try clear hcz39_1
                   try clear hcz39_2
                   try clear hcz39_3
                   try clear hcz39_4
                   try clear hcz42_0
                   try clear hcz42_1
                   try clear hcz42_2
                   try clear hcz42_3
                   try clear hcz42_4
                   try clear hfz39_0
                   try clear hfz39_1
                   try clear hfz39_2
                   try clear hfz39_3
                   try clear hfz39_4
                   try clear hfz42_0
                   try clear hfz42_1
                   try clear hfz42_2
                   try clear hfz42_3
                   try clear hfz42_4
                   try clear hx245_0
                   try clear hx251_0
                   try clear p245
                   try clear p251
                   try clear q245
                   try clear q251
                   obtain ⟨kq, x113_46, rfl, HA, HJ46, HO_7, HO_245004, BK235, BK244, HB⟩ := hcut
                   cases kq with
                   | zero => exact absurd HA.out (by simp [tollgateref09_Parse.j4])
                   | succ kj46 =>
                    have H := HA.out
                    clear HA
                    simp only [tollgateref09_Parse.j4] at H
                    by_cases c52 : x113_46 = true
                    ·subst c52
                     have H1 : (some ((⟨#[]⟩ : ByteArray), (⟨#[]⟩ : ByteArray), (⟨#[]⟩ : ByteArray), (⟨#[]⟩ : ByteArray), ([] : List (S38)), 0, 4)) = some (r1, r2, r3, r4, r5, r6, r7) := by rw [if_pos rfl] at H; exact H
                     clear H
                     have H := H1
                     clear H1
                     simp only [Option.some.injEq, Prod.mk.injEq] at H
                     obtain ⟨rfl, rfl, rfl, rfl, rfl, rfl, rfl⟩ := H
                     have hnb53 := NB235_244.out
                     have hnc53 := NB244_235.out
                     have hcz54_0 : wc.cell? ⟨gb235, 0, none⟩ = some (.string x236000_4) := (blk_cell BK235.out 0).trans rfl
                     have hcz54_1 : wc.cell? ⟨gb235, 1, none⟩ = some (.string x236001_4) := (blk_cell BK235.out 1).trans rfl
                     have hcz54_2 : wc.cell? ⟨gb235, 2, none⟩ = some (.string x236002_4) := (blk_cell BK235.out 2).trans rfl
                     have hcz54_3 : wc.cell? ⟨gb235, 3, none⟩ = some (.string x236003_4) := (blk_cell BK235.out 3).trans rfl
                     have hcz54_4 : wc.cell? ⟨gb235, 4, none⟩ = some (.slice none 0 0) := (blk_cell BK235.out 4).trans rfl
                     have hfz54_0 := blk_frozen BK235.out 0
                     have hfz54_1 := blk_frozen BK235.out 1
                     have hfz54_2 := blk_frozen BK235.out 2
                     have hfz54_3 := blk_frozen BK235.out 3
                     have hfz54_4 := blk_frozen BK235.out 4
                     go_wp2
                     refine bodyPost_ret (results_ctt rfl _ _ gb235 25 #[.string (⟨#[]⟩ : ByteArray), .string (⟨#[]⟩ : ByteArray), .string (⟨#[]⟩ : ByteArray), .string (⟨#[]⟩ : ByteArray), .slice none 0 0] (0, 0) _ rfl (by (with_reducible repeat (first | refine blk_drewN ?_ _ | refine blk_drew ?_ | refine blk_alloc ?_ _)); refine blk_put (cs := #[.string (⟨#[]⟩ : ByteArray), .string (⟨#[]⟩ : ByteArray), .string (⟨#[]⟩ : ByteArray), .string (⟨#[]⟩ : ByteArray), .slice none 0 0]) ?_ 4 _ rfl; (with_reducible repeat (first | refine blk_drewN ?_ _ | refine blk_drew ?_ | refine blk_alloc ?_ _)); refine blk_put (cs := #[.string (⟨#[]⟩ : ByteArray), .string (⟨#[]⟩ : ByteArray), .string (⟨#[]⟩ : ByteArray), .string x236003_4, .slice none 0 0]) ?_ 3 _ rfl; (with_reducible repeat (first | refine blk_drewN ?_ _ | refine blk_drew ?_ | refine blk_alloc ?_ _)); refine blk_put (cs := #[.string (⟨#[]⟩ : ByteArray), .string (⟨#[]⟩ : ByteArray), .string x236002_4, .string x236003_4, .slice none 0 0]) ?_ 2 _ rfl; (with_reducible repeat (first | refine blk_drewN ?_ _ | refine blk_drew ?_ | refine blk_alloc ?_ _)); refine blk_put (cs := #[.string (⟨#[]⟩ : ByteArray), .string x236001_4, .string x236002_4, .string x236003_4, .slice none 0 0]) ?_ 1 _ rfl; (with_reducible repeat (first | refine blk_drewN ?_ _ | refine blk_drew ?_ | refine blk_alloc ?_ _)); refine blk_put (cs := #[.string x236000_4, .string x236001_4, .string x236002_4, .string x236003_4, .slice none 0 0]) ?_ 0 _ rfl; (with_reducible repeat (first | refine blk_drewN ?_ _ | refine blk_drew ?_ | refine blk_alloc ?_ _)); exact BK235.out) Tryd.underlying25 rfl (by kernel_rfl)) rfl ?_
                     exact ⟨_, by first | rfl | (simp [errW_none, errW_some] <;> rfl) | (simp [*, errW_none, errW_some] <;> rfl), by first | exact Kd.R_nil _ _ _ _ _ | exact Kd.N_nil _ _ _ _ _ | exact Kd.V_nil _ _ _ _ _ | exact Kd.Q_nil _ _ _ _ _ | exact Kd.S_nil _ _ _ _ _, by repeat (first | (with_reducible first | exact HB.out | apply below_alloc | apply pw_below_drewN | apply below_drew1 | refine below_set ?_ GE235.out | refine below_set ?_ GE244.out) | exact HB.out)⟩
                    ·replace c52 := Bool.eq_false_iff.mpr c52
                     subst c52
                     have H1 : ((tollgateref09_Lower.f kj46 t252).bind fun t258 => (if x245004_4.length < 4398046511104 then ((some (x245004_4 ++ [(⟨t258, t255⟩ : S38)] : List (S38))).bind fun y259 => (if t258.toList = ([104, 111, 115, 116] : List UInt8) then ((tollgateref09_Host.f kj46 t255).bind fun bt262 => (if bt262.2 = true then (tollgateref09_Parse.j5 kj46 x5_1 t241 (wrap64 (x9_4 + 1)) x10_4 bt262.1 (decide ((wrap64 (x9_4 + 1)) > 1)) t247 t248 t249 x245003_4 y259) else (tollgateref09_Parse.j5 kj46 x5_1 t241 (wrap64 (x9_4 + 1)) x10_4 bt262.1 true t247 t248 t249 x245003_4 y259))) else (tollgateref09_Parse.l1 kj46 x5_1 t241 x9_4 (wrap64 (x10_4 + 1)) t247 t248 t249 x245003_4 y259))) else (none))) = some (r1, r2, r3, r4, r5, r6, r7) := by rw [if_neg (show ¬ (false = true) by decide)] at H; exact H
                     clear H
                     have H := H1
                     clear H1
                     replace H := Option.bind_eq_some_iff.mp H
                     obtain ⟨t258, A550, H⟩ := H
                     replace H : (if x245004_4.length < 4398046511104 then ((some (x245004_4 ++ [(⟨t258, t255⟩ : S38)] : List (S38))).bind fun y259 => (if t258.toList = ([104, 111, 115, 116] : List UInt8) then ((tollgateref09_Host.f kj46 t255).bind fun bt262 => (if bt262.2 = true then (tollgateref09_Parse.j5 kj46 x5_1 t241 (wrap64 (x9_4 + 1)) x10_4 bt262.1 (decide ((wrap64 (x9_4 + 1)) > 1)) t247 t248 t249 x245003_4 y259) else (tollgateref09_Parse.j5 kj46 x5_1 t241 (wrap64 (x9_4 + 1)) x10_4 bt262.1 true t247 t248 t249 x245003_4 y259))) else (tollgateref09_Parse.l1 kj46 x5_1 t241 x9_4 (wrap64 (x10_4 + 1)) t247 t248 t249 x245003_4 y259))) else (none)) = some (r1, r2, r3, r4, r5, r6, r7) := H
                     have A55 := Aside0.mk A550
                     clear A550
                     by_cases c56 : x245004_4.length < 4398046511104
                     ·rw [if_pos c56] at H
                      have LMc56 := Aside0.mk c56
                      clear c56
                      obtain ⟨y259, hy259⟩ : ∃ y_ : List (S38), y_ = (x245004_4 ++ [(⟨t258, t255⟩ : S38)]) := ⟨_, rfl⟩
                      replace H : (if t258.toList = ([104, 111, 115, 116] : List UInt8) then ((tollgateref09_Host.f kj46 t255).bind fun bt262 => (if bt262.2 = true then (tollgateref09_Parse.j5 kj46 x5_1 t241 (wrap64 (x9_4 + 1)) x10_4 bt262.1 (decide ((wrap64 (x9_4 + 1)) > 1)) t247 t248 t249 x245003_4 y259) else (tollgateref09_Parse.j5 kj46 x5_1 t241 (wrap64 (x9_4 + 1)) x10_4 bt262.1 true t247 t248 t249 x245003_4 y259))) else (tollgateref09_Parse.l1 kj46 x5_1 t241 x9_4 (wrap64 (x10_4 + 1)) t247 t248 t249 x245003_4 y259)) = some (r1, r2, r3, r4, r5, r6, r7) := by first | (rw [hy259]; with_reducible exact H) | (have H2_ := (Option.bind_some _ _).symm.trans H; rw [hy259]; with_reducible exact H2_) | (have H2_ := (Option.bind_some _ _).symm.trans H; with_reducible exact H2_) | with_reducible exact H | (rw [hy259]; exact H) | exact H
                      have Ny259 := Aside0.mk hy259
                      clear hy259
                      by_cases c57 : t258.toList = ([104, 111, 115, 116] : List UInt8)
                      ·rw [if_pos c57] at H
                       have c57b0 : (t258.toList == ([104, 111, 115, 116] : List UInt8)) = true := beq_iff_eq.mpr c57
                       have c57b1 : (t258.toList != ([104, 111, 115, 116] : List UInt8)) = false := bne_eq_false_iff_eq.mpr c57
                       clear c57
                       replace H := Option.bind_eq_some_iff.mp H
                       obtain ⟨⟨t262, t263⟩, A580, H⟩ := H
                       replace H : (if t263 = true then (tollgateref09_Parse.j5 kj46 x5_1 t241 (wrap64 (x9_4 + 1)) x10_4 t262 (decide ((wrap64 (x9_4 + 1)) > 1)) t247 t248 t249 x245003_4 y259) else (tollgateref09_Parse.j5 kj46 x5_1 t241 (wrap64 (x9_4 + 1)) x10_4 t262 true t247 t248 t249 x245003_4 y259)) = some (r1, r2, r3, r4, r5, r6, r7) := H
                       have A58 := Aside0.mk A580
                       clear A580
                       have HC59 := Aside0.mk H
                       clear H
                       go_upto_region 28 with (first | ((with_reducible refine gate_callee (f := 48) rfl ?_); refine goesL_ (some 116) rfl rfl Tryd.func48 (by kernel_rfl) rfl #[.string t252] rfl (by (try simp only [List.map_toArray, List.map_cons, List.map_nil]); first | done | rfl | (simp only [List.length_drop, List.length_take]; rfl)) ?_; (with_reducible refine (tollgateref09_Lower.calls kj46 t252 t258 _ A55.out).mono ?_); rintro e w60 ⟨rfl, hb⟩; refine ⟨_, rfl, ?_⟩; have n0_ := Aside0.mk (Kd.R_below (by (with_reducible repeat (first | apply Kd.R_alloc | apply Kd.R_drewN | apply Kd.R_drew)); exact HO_7.out) hb); have n1_ := Aside0.mk (Kd.R_below (by (with_reducible repeat (first | apply Kd.R_alloc | apply Kd.R_drewN | apply Kd.R_drew)); exact HO_245004.out) hb); have n2_ := Aside0.mk (blk_below (g := gb235) (o := .cells #[.string x236000_4, .string x236001_4, .string x236002_4, .string x236003_4, .slice none 0 0] 25 (0, 0)) (by (with_reducible repeat (first | refine blk_drewN ?_ _ | refine blk_drew ?_ | refine blk_alloc ?_ _)); exact BK235.out) hb); have n3_ := Aside0.mk (blk_below (g := gb244) (o := .cells #[.string t247, .string t248, .string t249, .string x245003_4, u245004] 25 (0, 0)) (by (with_reducible repeat (first | refine blk_drewN ?_ _ | refine blk_drew ?_ | refine blk_alloc ?_ _)); exact BK244.out) hb); have n4_ := Aside0.mk (below_step (by repeat (first | (with_reducible first | exact HB.out | apply below_alloc | apply pw_below_drewN | apply below_drew1 | refine below_set ?_ GE235.out | refine below_set ?_ GE244.out) | exact HB.out)) hb); clear HO_7; clear HO_245004; clear BK235; clear BK244; clear HB; have HO_7 := n0_; have HO_245004 := n1_; have BK235 := n2_; have BK244 := n3_; have HB := n4_; clear n0_ n1_ n2_ n3_ n4_; (try clear hb); (try clear hb2); (try clear hk); (try clear hi); have hnb61 := NB244_235.out; have hnc61 := NB235_244.out; have hcz62_0 : w60.cell? ⟨gb244, 0, none⟩ = some (.string t247) := (blk_cell BK244.out 0).trans rfl; have hcz62_1 : w60.cell? ⟨gb244, 1, none⟩ = some (.string t248) := (blk_cell BK244.out 1).trans rfl; have hcz62_2 : w60.cell? ⟨gb244, 2, none⟩ = some (.string t249) := (blk_cell BK244.out 2).trans rfl; have hcz62_3 : w60.cell? ⟨gb244, 3, none⟩ = some (.string x245003_4) := (blk_cell BK244.out 3).trans rfl; have hcz62_4 : w60.cell? ⟨gb244, 4, none⟩ = some (u245004) := (blk_cell BK244.out 4).trans rfl; have hfz62_0 := blk_frozen BK244.out 0; have hfz62_1 := blk_frozen BK244.out 1; have hfz62_2 := blk_frozen BK244.out 2; have hfz62_3 := blk_frozen BK244.out 3; have hfz62_4 := blk_frozen BK244.out 4) | ((with_reducible refine gate_builtin (b := .append) (xs := #[.tmp 118, .tmp 122]) rfl ?_); (try (refine gate_guard (by rfl) ?_; dsimp only)); at_builtin; refine Kd.R_append k38 (w0 := w) w.heap.size rfl (.tmp 118) (.tmp 122) 23 38 (.agg #[(.string ⟨#[]⟩), (.string ⟨#[]⟩)]) 32 rfl Tryd.underlying23 info38 rfl (by decide) (by omega) u245004 x245004_4 (⟨t258, t255⟩ : S38) [.string t258, .string t255] (fun _ => True) (fun _ => False) rfl rfl ?aP (fun _ hk => hk.elim) ?aF ?aO ?aB ?aS ?aL ?_; (case aP => exact k38_mkM _ _ _ (⟨t258, t255⟩ : S38)); (case aB => exact (by repeat (first | (with_reducible first | exact HB.out | apply below_alloc | apply pw_below_drewN | apply below_drew1 | refine below_set ?_ GE235.out | refine below_set ?_ GE244.out) | exact HB.out))); (case aF => exact (fun _ _ => trivial)); (case aO => exact (by (with_reducible repeat (first | apply Kd.R_alloc | apply Kd.R_drewN | apply Kd.R_drew)); exact HO_245004.out)); (case aS => exact (below_size (by repeat (first | (with_reducible first | exact HB.out | apply below_alloc | apply pw_below_drewN | apply below_drew1 | refine below_set ?_ GE235.out | refine below_set ?_ GE244.out) | exact HB.out)))); (case aL => have := LMc56.out; omega); intro v260 w63 ho hb hg hat; rw [← Ny259.out] at ho; have n0_ := Aside0.mk (Kd.R_over' (by (with_reducible repeat (first | apply Kd.R_alloc | apply Kd.R_drewN | apply Kd.R_drew)); exact HO_7.out) (Kd.R_typed (by (with_reducible repeat (first | apply Kd.R_alloc | apply Kd.R_drewN | apply Kd.R_drew)); exact HO_245004.out)) (by decide) hg); have n1_ := Aside0.mk (blk_grown (g := gb235) (o := .cells #[.string x236000_4, .string x236001_4, .string x236002_4, .string x236003_4, .slice none 0 0] 25 (0, 0)) (by (with_reducible repeat (first | refine blk_drewN ?_ _ | refine blk_drew ?_ | refine blk_alloc ?_ _)); exact BK235.out) hg (Kd.R_ne HO_245004.out BK235.out (by decide))); have n2_ := Aside0.mk (blk_grown (g := gb244) (o := .cells #[.string t247, .string t248, .string t249, .string x245003_4, u245004] 25 (0, 0)) (by (with_reducible repeat (first | refine blk_drewN ?_ _ | refine blk_drew ?_ | refine blk_alloc ?_ _)); exact BK244.out) hg (Kd.R_ne HO_245004.out BK244.out (by decide))); have n3_ := Aside0.mk (hb); have n4_ := Aside0.mk (ho); clear HO_7; clear BK235; clear BK244; clear HB; clear HO_245004; have HO_7 := n0_; have BK235 := n1_; have BK244 := n2_; have HB := n3_; have HO261 := n4_; clear n0_ n1_ n2_ n3_ n4_; clear ho hb hg hat; obtain ⟨Ao64, co64, eo64⟩ := Kd.R_slice HO261.out; subst eo64; have hcz65_0 : w63.cell? ⟨gb244, 0, none⟩ = some (.string t247) := (blk_cell BK244.out 0).trans rfl; have hcz65_1 : w63.cell? ⟨gb244, 1, none⟩ = some (.string t248) := (blk_cell BK244.out 1).trans rfl; have hcz65_2 : w63.cell? ⟨gb244, 2, none⟩ = some (.string t249) := (blk_cell BK244.out 2).trans rfl; have hcz65_3 : w63.cell? ⟨gb244, 3, none⟩ = some (.string x245003_4) := (blk_cell BK244.out 3).trans rfl; have hcz65_4 : w63.cell? ⟨gb244, 4, none⟩ = some (u245004) := (blk_cell BK244.out 4).trans rfl; have hfz65_0 := blk_frozen BK244.out 0; have hfz65_1 := blk_frozen BK244.out 1; have hfz65_2 := blk_frozen BK244.out 2; have hfz65_3 := blk_frozen BK244.out 3; have hfz65_4 := blk_frozen BK244.out 4) | ((with_reducible refine gate_callee (f := 23) rfl ?_); refine goesL_ (some 131) rfl rfl Tryd.func23 (by kernel_rfl) rfl #[.string t255] rfl (by (try simp only [List.map_toArray, List.map_cons, List.map_nil]); first | done | rfl | (simp only [List.length_drop, List.length_take]; rfl)) ?_; (with_reducible refine (tollgateref09_Host.calls kj46 t255 t262 t263 _ A58.out).mono ?_); rintro e w66 ⟨rfl, hb⟩; refine ⟨_, rfl, ?_⟩; have n0_ := Aside0.mk (Kd.R_below (by (with_reducible repeat (first | apply Kd.R_alloc | apply Kd.R_drewN | apply Kd.R_drew)); exact (Kd.R_mono (Kd.R_far (p := ⟨gb244, 4, none⟩) (Kd.R_types HO_7.out BK244.out (by decide)) (fun _ hk => hk.2) (.slice Ao64 y259.length co64)) (fun _ h_ => h_.1))) hb); have n1_ := Aside0.mk (Kd.R_below (by (with_reducible repeat (first | apply Kd.R_alloc | apply Kd.R_drewN | apply Kd.R_drew)); exact (Kd.R_mono (Kd.R_far (p := ⟨gb244, 4, none⟩) (Kd.R_types HO261.out BK244.out (by decide)) (fun _ hk => hk.2) (.slice Ao64 y259.length co64)) (fun _ h_ => h_.1))) hb); have n2_ := Aside0.mk (blk_below (g := gb235) (o := .cells #[.string x236000_4, .string x236001_4, .string x236002_4, .string x236003_4, .slice none 0 0] 25 (0, 0)) (by (with_reducible repeat (first | refine blk_drewN ?_ _ | refine blk_drew ?_ | refine blk_alloc ?_ _)); refine blk_far ?_ NB235_244.out _; (with_reducible repeat (first | refine blk_drewN ?_ _ | refine blk_drew ?_ | refine blk_alloc ?_ _)); exact BK235.out) hb); have n3_ := Aside0.mk (blk_below (g := gb244) (o := .cells #[.string t247, .string t248, .string t249, .string x245003_4, .slice Ao64 y259.length co64] 25 (0, 0)) (by (with_reducible repeat (first | refine blk_drewN ?_ _ | refine blk_drew ?_ | refine blk_alloc ?_ _)); refine blk_put (cs := #[.string t247, .string t248, .string t249, .string x245003_4, u245004]) ?_ 4 _ rfl; (with_reducible repeat (first | refine blk_drewN ?_ _ | refine blk_drew ?_ | refine blk_alloc ?_ _)); exact BK244.out) hb); have n4_ := Aside0.mk (below_step (by repeat (first | (with_reducible first | exact HB.out | apply below_alloc | apply pw_below_drewN | apply below_drew1 | refine below_set ?_ GE235.out | refine below_set ?_ GE244.out) | exact HB.out)) hb); clear HO_7; clear HO261; clear BK235; clear BK244; clear HB; have HO_7 := n0_; have HO261 := n1_; have BK235 := n2_; have BK244 := n3_; have HB := n4_; clear n0_ n1_ n2_ n3_ n4_; (try clear hb); (try clear hb2); (try clear hk); (try clear hi)))
                       (try simp only [Act.put, List.setIfInBounds_toArray, List.set_cons_zero, List.set_cons_succ])
                       go_cut [139] (fun v139 wc => ∃ (kq : Nat) (x139_58 : Bool), v139 = .bool x139_58 ∧ Aside0 (tollgateref09_Parse.j5 kq x5_1 t241 (wrap64 (x9_4 + 1)) x10_4 t262 x139_58 t247 t248 t249 x245003_4 y259 = some (r1, r2, r3, r4, r5, r6, r7)) ∧ Aside0 (kq ≤ kj46) ∧ Aside0 (Kd.R Kd.string 9 wc w.heap.size (fun _ => True) (.slice (some ad245) t241.length co40) t241) ∧ Aside0 (Kd.R k38 38 wc w.heap.size (fun _ => True) (.slice Ao64 y259.length co64) y259) ∧ Aside0 (wc.heap[gb235]? = some (.cells #[.string x236000_4, .string x236001_4, .string x236002_4, .string x236003_4, (.slice none 0 0)] 25 (0, 0))) ∧ Aside0 (wc.heap[gb244]? = some (.cells #[.string t247, .string t248, .string t249, .string x245003_4, (.slice Ao64 y259.length co64)] 25 (0, 0))) ∧ Aside0 (Below w.heap.size w wc))
                       case first =>
                        have H := HC59.out
                        clear HC59
                        by_cases c67 : t263 = true
                        ·subst c67
                         have H1 : (tollgateref09_Parse.j5 kj46 x5_1 t241 (wrap64 (x9_4 + 1)) x10_4 t262 (decide ((wrap64 (x9_4 + 1)) > 1)) t247 t248 t249 x245003_4 y259) = some (r1, r2, r3, r4, r5, r6, r7) := by rw [if_pos rfl] at H; exact H
                         clear H
                         have H := H1
                         clear H1
                         have H' := Aside0.mk H
                         clear H
                         go_wp2
                         go_meet
                         case rel => exact ⟨_, (decide ((wrap64 (x9_4 + 1)) > 1)), (by first | rfl | (simp; done) | (simp [*]; done)), H', ⟨by have := HK1.out; have := HJ2.out; have := HJ21.out; have := HK4.out; have := HJ46.out; first | omega | exact Nat.le_refl _⟩, ⟨by (with_reducible repeat (first | apply Kd.R_alloc | apply Kd.R_drewN | apply Kd.R_drew)); exact HO_7.out⟩, ⟨by (with_reducible repeat (first | apply Kd.R_alloc | apply Kd.R_drewN | apply Kd.R_drew)); exact HO261.out⟩, ⟨by (with_reducible repeat (first | refine blk_drewN ?_ _ | refine blk_drew ?_ | refine blk_alloc ?_ _)); exact BK235.out⟩, ⟨by (with_reducible repeat (first | refine blk_drewN ?_ _ | refine blk_drew ?_ | refine blk_alloc ?_ _)); exact BK244.out⟩, ⟨by repeat (first | (with_reducible first | exact HB.out | apply below_alloc | apply pw_below_drewN | apply below_drew1 | refine below_set ?_ GE235.out | refine below_set ?_ GE244.out) | exact HB.out)⟩⟩
                        ·replace c67 := Bool.eq_false_iff.mpr c67
                         subst c67
                         have H1 : (tollgateref09_Parse.j5 kj46 x5_1 t241 (wrap64 (x9_4 + 1)) x10_4 t262 true t247 t248 t249 x245003_4 y259) = some (r1, r2, r3, r4, r5, r6, r7) := by rw [if_neg (show ¬ (false = true) by decide)] at H; exact H
                         clear H
                         have H := H1
                         clear H1
                         have H' := Aside0.mk H
                         clear H
                         go_wp2
                         go_meet
                         case rel => exact ⟨_, (true), (by first | rfl | (simp; done) | (simp [*]; done)), H', ⟨by have := HK1.out; have := HJ2.out; have := HJ21.out; have := HK4.out; have := HJ46.out; first | omega | exact Nat.le_refl _⟩, ⟨by (with_reducible repeat (first | apply Kd.R_alloc | apply Kd.R_drewN | apply Kd.R_drew)); exact HO_7.out⟩, ⟨by (with_reducible repeat (first | apply Kd.R_alloc | apply Kd.R_drewN | apply Kd.R_drew)); exact HO261.out⟩, ⟨by (with_reducible repeat (first | refine blk_drewN ?_ _ | refine blk_drew ?_ | refine blk_alloc ?_ _)); exact BK235.out⟩, ⟨by (with_reducible repeat (first | refine blk_drewN ?_ _ | refine blk_drew ?_ | refine blk_alloc ?_ _)); exact BK244.out⟩, ⟨by repeat (first | (with_reducible first | exact HB.out | apply below_alloc | apply pw_below_drewN | apply below_drew1 | refine below_set ?_ GE235.out | refine below_set ?_ GE244.out) | exact HB.out)⟩⟩
                       case rest =>
                        clear HC59
                        try clear c6
                        try clear c24
                        try clear c26
                        try clear c26b0
                        try clear c28
                        try clear c28b0
                        try clear c28b1
                        try clear c29
                        try clear c29b0
                        try clear c29b1
                        try clear c31
                        try clear c31b0
                        try clear c31b1
                        try clear c33
                        try clear hcv35
                        try clear c43
                        try clear c43b0
                        try clear c44
                        try clear c44b0
                        try clear c52
                        try clear c56
                        try clear c57
                        try clear c57b0
                        try clear c57b1
                        try clear hcz39_0
                        try clear hcz39_1
                        try clear hcz39_2
                        try clear hcz39_3
                        try clear hcz39_4
                        try clear hcz42_0
                        try clear hcz42_1
                        try clear hcz42_2
                        try clear hcz42_3
                        try clear hcz42_4
                        try clear hcz62_0
                        try clear hcz62_1
                        try clear hcz62_2
                        try clear hcz62_3
                        try clear hcz62_4
                        try clear hcz65_0
                        try clear hcz65_1
                        try clear hcz65_2
                        try clear hcz65_3
                        try clear hcz65_4
                        try clear hfz39_0
                        try clear hfz39_1
                        try clear hfz39_2
                        try clear hfz39_3
                        try clear hfz39_4
                        try clear hfz42_0
                        try clear hfz42_1
                        try clear hfz42_2
                        try clear hfz42_3
                        try clear hfz42_4
                        try clear hfz62_0
                        try clear hfz62_1
                        try clear hfz62_2
                        try clear hfz62_3
                        try clear hfz62_4
                        try clear hfz65_0
                        try clear hfz65_1
                        try clear hfz65_2
                        try clear hfz65_3
                        try clear hfz65_4
                        try clear hx245_0
                        try clear hx251_0
                        try clear p245
                        try clear p251
                        try clear q245
                        try clear q251
                        obtain ⟨kq, x139_58, rfl, HA, HJ58, HO_7, HO_245004, BK235, BK244, HB⟩ := hcut
                        cases kq with
                        | zero => exact absurd HA.out (by simp [tollgateref09_Parse.j5])
                        | succ kj58 =>
                         have H := HA.out
                         clear HA
                         simp only [tollgateref09_Parse.j5] at H
                         by_cases c68 : x139_58 = true
                         ·subst c68
                          have H1 : (some ((⟨#[]⟩ : ByteArray), (⟨#[]⟩ : ByteArray), (⟨#[]⟩ : ByteArray), (⟨#[]⟩ : ByteArray), ([] : List (S38)), 0, 4)) = some (r1, r2, r3, r4, r5, r6, r7) := by rw [if_pos rfl] at H; exact H
                          clear H
                          have H := H1
                          clear H1
                          simp only [Option.some.injEq, Prod.mk.injEq] at H
                          obtain ⟨rfl, rfl, rfl, rfl, rfl, rfl, rfl⟩ := H
                          have hnb69 := NB235_244.out
                          have hnc69 := NB244_235.out
                          have hcz70_0 : wc.cell? ⟨gb235, 0, none⟩ = some (.string x236000_4) := (blk_cell BK235.out 0).trans rfl
                          have hcz70_1 : wc.cell? ⟨gb235, 1, none⟩ = some (.string x236001_4) := (blk_cell BK235.out 1).trans rfl
                          have hcz70_2 : wc.cell? ⟨gb235, 2, none⟩ = some (.string x236002_4) := (blk_cell BK235.out 2).trans rfl
                          have hcz70_3 : wc.cell? ⟨gb235, 3, none⟩ = some (.string x236003_4) := (blk_cell BK235.out 3).trans rfl
                          have hcz70_4 : wc.cell? ⟨gb235, 4, none⟩ = some (.slice none 0 0) := (blk_cell BK235.out 4).trans rfl
                          have hfz70_0 := blk_frozen BK235.out 0
                          have hfz70_1 := blk_frozen BK235.out 1
                          have hfz70_2 := blk_frozen BK235.out 2
                          have hfz70_3 := blk_frozen BK235.out 3
                          have hfz70_4 := blk_frozen BK235.out 4
                          go_wp2
                          refine bodyPost_ret (results_ctt rfl _ _ gb235 25 #[.string (⟨#[]⟩ : ByteArray), .string (⟨#[]⟩ : ByteArray), .string (⟨#[]⟩ : ByteArray), .string (⟨#[]⟩ : ByteArray), .slice none 0 0] (0, 0) _ rfl (by (with_reducible repeat (first | refine blk_drewN ?_ _ | refine blk_drew ?_ | refine blk_alloc ?_ _)); refine blk_put (cs := #[.string (⟨#[]⟩ : ByteArray), .string (⟨#[]⟩ : ByteArray), .string (⟨#[]⟩ : ByteArray), .string (⟨#[]⟩ : ByteArray), .slice none 0 0]) ?_ 4 _ rfl; (with_reducible repeat (first | refine blk_drewN ?_ _ | refine blk_drew ?_ | refine blk_alloc ?_ _)); refine blk_put (cs := #[.string (⟨#[]⟩ : ByteArray), .string (⟨#[]⟩ : ByteArray), .string (⟨#[]⟩ : ByteArray), .string x236003_4, .slice none 0 0]) ?_ 3 _ rfl; (with_reducible repeat (first | refine blk_drewN ?_ _ | refine blk_drew ?_ | refine blk_alloc ?_ _)); refine blk_put (cs := #[.string (⟨#[]⟩ : ByteArray), .string (⟨#[]⟩ : ByteArray), .string x236002_4, .string x236003_4, .slice none 0 0]) ?_ 2 _ rfl; (with_reducible repeat (first | refine blk_drewN ?_ _ | refine blk_drew ?_ | refine blk_alloc ?_ _)); refine blk_put (cs := #[.string (⟨#[]⟩ : ByteArray), .string x236001_4, .string x236002_4, .string x236003_4, .slice none 0 0]) ?_ 1 _ rfl; (with_reducible repeat (first | refine blk_drewN ?_ _ | refine blk_drew ?_ | refine blk_alloc ?_ _)); refine blk_put (cs := #[.string x236000_4, .string x236001_4, .string x236002_4, .string x236003_4, .slice none 0 0]) ?_ 0 _ rfl; (with_reducible repeat (first | refine blk_drewN ?_ _ | refine blk_drew ?_ | refine blk_alloc ?_ _)); exact BK235.out) Tryd.underlying25 rfl (by kernel_rfl)) rfl ?_
                          exact ⟨_, by first | rfl | (simp [errW_none, errW_some] <;> rfl) | (simp [*, errW_none, errW_some] <;> rfl), by first | exact Kd.R_nil _ _ _ _ _ | exact Kd.N_nil _ _ _ _ _ | exact Kd.V_nil _ _ _ _ _ | exact Kd.Q_nil _ _ _ _ _ | exact Kd.S_nil _ _ _ _ _, by repeat (first | (with_reducible first | exact HB.out | apply below_alloc | apply pw_below_drewN | apply below_drew1 | refine below_set ?_ GE235.out | refine below_set ?_ GE244.out) | exact HB.out)⟩
                         ·replace c68 := Bool.eq_false_iff.mpr c68
                          subst c68
                          have H1 : (if x245003_4.toList = ([] : List UInt8) then (tollgateref09_Parse.l1 kj58 x5_1 t241 (wrap64 (x9_4 + 1)) (wrap64 (x10_4 + 1)) t247 t248 t249 t262 y259) else (tollgateref09_Parse.l1 kj58 x5_1 t241 (wrap64 (x9_4 + 1)) (wrap64 (x10_4 + 1)) t247 t248 t249 x245003_4 y259)) = some (r1, r2, r3, r4, r5, r6, r7) := by rw [if_neg (show ¬ (false = true) by decide)] at H; exact H
                          clear H
                          have H := H1
                          clear H1
                          by_cases c71 : x245003_4.toList = ([] : List UInt8)
                          ·rw [if_pos c71] at H
                           have c71b0 : (x245003_4.toList == ([] : List UInt8)) = true := beq_iff_eq.mpr c71
                           have c71b1 : (x245003_4.toList != ([] : List UInt8)) = false := bne_eq_false_iff_eq.mpr c71
                           have c71b2 : x245003_4.toList.isEmpty = true := by simpa using c71
                           clear c71
                           have H' := Aside0.mk H
                           clear H
                           have hnb72 := NB244_235.out
                           have hnc72 := NB235_244.out
                           have hcz73_0 : wc.cell? ⟨gb244, 0, none⟩ = some (.string t247) := (blk_cell BK244.out 0).trans rfl
                           have hcz73_1 : wc.cell? ⟨gb244, 1, none⟩ = some (.string t248) := (blk_cell BK244.out 1).trans rfl
                           have hcz73_2 : wc.cell? ⟨gb244, 2, none⟩ = some (.string t249) := (blk_cell BK244.out 2).trans rfl
                           have hcz73_3 : wc.cell? ⟨gb244, 3, none⟩ = some (.string x245003_4) := (blk_cell BK244.out 3).trans rfl
                           have hcz73_4 : wc.cell? ⟨gb244, 4, none⟩ = some (.slice Ao64 y259.length co64) := (blk_cell BK244.out 4).trans rfl
                           have hfz73_0 := blk_frozen BK244.out 0
                           have hfz73_1 := blk_frozen BK244.out 1
                           have hfz73_2 := blk_frozen BK244.out 2
                           have hfz73_3 := blk_frozen BK244.out 3
                           have hfz73_4 := blk_frozen BK244.out 4
                           go_wp2
                           go_roundg kj58
                           case measure => have := HK1.out; have := HJ2.out; have := HJ21.out; have := HK4.out; have := HJ46.out; have := HJ58.out; omega
                           case rel => exact ⟨((wrap64 (x9_4 + 1))), (wrap64 (x10_4 + 1)), (x236000_4), (x236001_4), (x236002_4), (x236003_4), (t262), (y259), (.slice Ao64 y259.length co64), (by first | rfl | (simp; done) | (simp [*]; done)), (by first | rfl | (simp; done) | (simp [*]; done)), H', ⟨by have := HK1.out; have := HJ2.out; have := HJ21.out; have := HK4.out; have := HJ46.out; have := HJ58.out; omega⟩, ⟨by (with_reducible repeat (first | apply Kd.R_alloc | apply Kd.R_drewN | apply Kd.R_drew)); exact Kd.R_mono (Kd.R_far (p := ⟨gb244, 3, none⟩) (Kd.R_types HO_7.out BK244.out (by decide)) (fun _ hk => hk.2) (.string t262)) (fun _ hk => trivial)⟩, ⟨by (with_reducible repeat (first | apply Kd.R_alloc | apply Kd.R_drewN | apply Kd.R_drew)); exact Kd.R_mono (Kd.R_far (p := ⟨gb244, 3, none⟩) (Kd.R_types HO_245004.out BK244.out (by decide)) (fun _ hk => hk.2) (.string t262)) (fun _ hk => trivial)⟩, ⟨by (with_reducible repeat (first | refine blk_drewN ?_ _ | refine blk_drew ?_ | refine blk_alloc ?_ _)); refine blk_far ?_ NB235_244.out _; (with_reducible repeat (first | refine blk_drewN ?_ _ | refine blk_drew ?_ | refine blk_alloc ?_ _)); exact BK235.out⟩, ⟨by (with_reducible repeat (first | refine blk_drewN ?_ _ | refine blk_drew ?_ | refine blk_alloc ?_ _)); refine blk_put (cs := #[.string t247, .string t248, .string t249, .string x245003_4, .slice Ao64 y259.length co64]) ?_ 3 _ rfl; (with_reducible repeat (first | refine blk_drewN ?_ _ | refine blk_drew ?_ | refine blk_alloc ?_ _)); exact BK244.out⟩, ⟨by repeat (first | (with_reducible first | exact HB.out | apply below_alloc | apply pw_below_drewN | apply below_drew1 | refine below_set ?_ GE235.out | refine below_set ?_ GE244.out) | exact HB.out)⟩⟩
                          ·rw [if_neg c71] at H
                           have c71b0 : (x245003_4.toList == ([] : List UInt8)) = false := beq_eq_false_iff_ne.mpr c71
                           have c71b1 : (x245003_4.toList != ([] : List UInt8)) = true := bne_iff_ne.mpr c71
                           have c71b2 : x245003_4.toList.isEmpty = false := by simpa using c71
                           have H' := Aside0.mk H
                           clear H
                           have hnb74 := NB244_235.out
                           have hnc74 := NB235_244.out
                           have hcz75_0 : wc.cell? ⟨gb244, 0, none⟩ = some (.string t247) := (blk_cell BK244.out 0).trans rfl
                           have hcz75_1 : wc.cell? ⟨gb244, 1, none⟩ = some (.string t248) := (blk_cell BK244.out 1).trans rfl
                           have hcz75_2 : wc.cell? ⟨gb244, 2, none⟩ = some (.string t249) := (blk_cell BK244.out 2).trans rfl
                           have hcz75_3 : wc.cell? ⟨gb244, 3, none⟩ = some (.string x245003_4) := (blk_cell BK244.out 3).trans rfl
                           have hcz75_4 : wc.cell? ⟨gb244, 4, none⟩ = some (.slice Ao64 y259.length co64) := (blk_cell BK244.out 4).trans rfl
                           have hfz75_0 := blk_frozen BK244.out 0
                           have hfz75_1 := blk_frozen BK244.out 1
                           have hfz75_2 := blk_frozen BK244.out 2
                           have hfz75_3 := blk_frozen BK244.out 3
                           have hfz75_4 := blk_frozen BK244.out 4
                           go_wp2
                           go_roundg kj58
                           case measure => have := HK1.out; have := HJ2.out; have := HJ21.out; have := HK4.out; have := HJ46.out; have := HJ58.out; omega
                           case rel => exact ⟨((wrap64 (x9_4 + 1))), (wrap64 (x10_4 + 1)), (x236000_4), (x236001_4), (x236002_4), (x236003_4), (x245003_4), (y259), (.slice Ao64 y259.length co64), (by first | rfl | (simp; done) | (simp [*]; done)), (by first | rfl | (simp; done) | (simp [*]; done)), H', ⟨by have := HK1.out; have := HJ2.out; have := HJ21.out; have := HK4.out; have := HJ46.out; have := HJ58.out; omega⟩, ⟨by (with_reducible repeat (first | apply Kd.R_alloc | apply Kd.R_drewN | apply Kd.R_drew)); exact HO_7.out⟩, ⟨by (with_reducible repeat (first | apply Kd.R_alloc | apply Kd.R_drewN | apply Kd.R_drew)); exact HO_245004.out⟩, ⟨by (with_reducible repeat (first | refine blk_drewN ?_ _ | refine blk_drew ?_ | refine blk_alloc ?_ _)); exact BK235.out⟩, ⟨by (with_reducible repeat (first | refine blk_drewN ?_ _ | refine blk_drew ?_ | refine blk_alloc ?_ _)); exact BK244.out⟩, ⟨by repeat (first | (with_reducible first | exact HB.out | apply below_alloc | apply pw_below_drewN | apply below_drew1 | refine below_set ?_ GE235.out | refine below_set ?_ GE244.out) | exact HB.out)⟩⟩
                      ·rw [if_neg c57] at H
                       have c57b0 : (t258.toList == ([104, 111, 115, 116] : List UInt8)) = false := beq_eq_false_iff_ne.mpr c57
                       have c57b1 : (t258.toList != ([104, 111, 115, 116] : List UInt8)) = true := bne_iff_ne.mpr c57
                       have H' := Aside0.mk H
                       clear H
                       go_wp2_with (first | ((with_reducible refine gate_callee (f := 48) rfl ?_); refine goesL_ (some 116) rfl rfl Tryd.func48 (by kernel_rfl) rfl #[.string t252] rfl (by (try simp only [List.map_toArray, List.map_cons, List.map_nil]); first | done | rfl | (simp only [List.length_drop, List.length_take]; rfl)) ?_; (with_reducible refine (tollgateref09_Lower.calls kj46 t252 t258 _ A55.out).mono ?_); rintro e w76 ⟨rfl, hb⟩; refine ⟨_, rfl, ?_⟩; have n0_ := Aside0.mk (Kd.R_below (by (with_reducible repeat (first | apply Kd.R_alloc | apply Kd.R_drewN | apply Kd.R_drew)); exact HO_7.out) hb); have n1_ := Aside0.mk (Kd.R_below (by (with_reducible repeat (first | apply Kd.R_alloc | apply Kd.R_drewN | apply Kd.R_drew)); exact HO_245004.out) hb); have n2_ := Aside0.mk (blk_below (g := gb235) (o := .cells #[.string x236000_4, .string x236001_4, .string x236002_4, .string x236003_4, .slice none 0 0] 25 (0, 0)) (by (with_reducible repeat (first | refine blk_drewN ?_ _ | refine blk_drew ?_ | refine blk_alloc ?_ _)); exact BK235.out) hb); have n3_ := Aside0.mk (blk_below (g := gb244) (o := .cells #[.string t247, .string t248, .string t249, .string x245003_4, u245004] 25 (0, 0)) (by (with_reducible repeat (first | refine blk_drewN ?_ _ | refine blk_drew ?_ | refine blk_alloc ?_ _)); exact BK244.out) hb); have n4_ := Aside0.mk (below_step (by repeat (first | (with_reducible first | exact HB.out | apply below_alloc | apply pw_below_drewN | apply below_drew1 | refine below_set ?_ GE235.out | refine below_set ?_ GE244.out) | exact HB.out)) hb); clear HO_7; clear HO_245004; clear BK235; clear BK244; clear HB; have HO_7 := n0_; have HO_245004 := n1_; have BK235 := n2_; have BK244 := n3_; have HB := n4_; clear n0_ n1_ n2_ n3_ n4_; (try clear hb); (try clear hb2); (try clear hk); (try clear hi); have hnb77 := NB244_235.out; have hnc77 := NB235_244.out; have hcz78_0 : w76.cell? ⟨gb244, 0, none⟩ = some (.string t247) := (blk_cell BK244.out 0).trans rfl; have hcz78_1 : w76.cell? ⟨gb244, 1, none⟩ = some (.string t248) := (blk_cell BK244.out 1).trans rfl; have hcz78_2 : w76.cell? ⟨gb244, 2, none⟩ = some (.string t249) := (blk_cell BK244.out 2).trans rfl; have hcz78_3 : w76.cell? ⟨gb244, 3, none⟩ = some (.string x245003_4) := (blk_cell BK244.out 3).trans rfl; have hcz78_4 : w76.cell? ⟨gb244, 4, none⟩ = some (u245004) := (blk_cell BK244.out 4).trans rfl; have hfz78_0 := blk_frozen BK244.out 0; have hfz78_1 := blk_frozen BK244.out 1; have hfz78_2 := blk_frozen BK244.out 2; have hfz78_3 := blk_frozen BK244.out 3; have hfz78_4 := blk_frozen BK244.out 4) | ((with_reducible refine gate_builtin (b := .append) (xs := #[.tmp 118, .tmp 122]) rfl ?_); (try (refine gate_guard (by rfl) ?_; dsimp only)); at_builtin; refine Kd.R_append k38 (w0 := w) w.heap.size rfl (.tmp 118) (.tmp 122) 23 38 (.agg #[(.string ⟨#[]⟩), (.string ⟨#[]⟩)]) 32 rfl Tryd.underlying23 info38 rfl (by decide) (by omega) u245004 x245004_4 (⟨t258, t255⟩ : S38) [.string t258, .string t255] (fun _ => True) (fun _ => False) rfl rfl ?aP (fun _ hk => hk.elim) ?aF ?aO ?aB ?aS ?aL ?_; (case aP => exact k38_mkM _ _ _ (⟨t258, t255⟩ : S38)); (case aB => exact (by repeat (first | (with_reducible first | exact HB.out | apply below_alloc | apply pw_below_drewN | apply below_drew1 | refine below_set ?_ GE235.out | refine below_set ?_ GE244.out) | exact HB.out))); (case aF => exact (fun _ _ => trivial)); (case aO => exact (by (with_reducible repeat (first | apply Kd.R_alloc | apply Kd.R_drewN | apply Kd.R_drew)); exact HO_245004.out)); (case aS => exact (below_size (by repeat (first | (with_reducible first | exact HB.out | apply below_alloc | apply pw_below_drewN | apply below_drew1 | refine below_set ?_ GE235.out | refine below_set ?_ GE244.out) | exact HB.out)))); (case aL => have := LMc56.out; omega); intro v260 w79 ho hb hg hat; rw [← Ny259.out] at ho; have n0_ := Aside0.mk (Kd.R_over' (by (with_reducible repeat (first | apply Kd.R_alloc | apply Kd.R_drewN | apply Kd.R_drew)); exact HO_7.out) (Kd.R_typed (by (with_reducible repeat (first | apply Kd.R_alloc | apply Kd.R_drewN | apply Kd.R_drew)); exact HO_245004.out)) (by decide) hg); have n1_ := Aside0.mk (blk_grown (g := gb235) (o := .cells #[.string x236000_4, .string x236001_4, .string x236002_4, .string x236003_4, .slice none 0 0] 25 (0, 0)) (by (with_reducible repeat (first | refine blk_drewN ?_ _ | refine blk_drew ?_ | refine blk_alloc ?_ _)); exact BK235.out) hg (Kd.R_ne HO_245004.out BK235.out (by decide))); have n2_ := Aside0.mk (blk_grown (g := gb244) (o := .cells #[.string t247, .string t248, .string t249, .string x245003_4, u245004] 25 (0, 0)) (by (with_reducible repeat (first | refine blk_drewN ?_ _ | refine blk_drew ?_ | refine blk_alloc ?_ _)); exact BK244.out) hg (Kd.R_ne HO_245004.out BK244.out (by decide))); have n3_ := Aside0.mk (hb); have n4_ := Aside0.mk (ho); clear HO_7; clear BK235; clear BK244; clear HB; clear HO_245004; have HO_7 := n0_; have BK235 := n1_; have BK244 := n2_; have HB := n3_; have HO261 := n4_; clear n0_ n1_ n2_ n3_ n4_; clear ho hb hg hat; obtain ⟨Ao80, co80, eo80⟩ := Kd.R_slice HO261.out; subst eo80; have hcz81_0 : w79.cell? ⟨gb244, 0, none⟩ = some (.string t247) := (blk_cell BK244.out 0).trans rfl; have hcz81_1 : w79.cell? ⟨gb244, 1, none⟩ = some (.string t248) := (blk_cell BK244.out 1).trans rfl; have hcz81_2 : w79.cell? ⟨gb244, 2, none⟩ = some (.string t249) := (blk_cell BK244.out 2).trans rfl; have hcz81_3 : w79.cell? ⟨gb244, 3, none⟩ = some (.string x245003_4) := (blk_cell BK244.out 3).trans rfl; have hcz81_4 : w79.cell? ⟨gb244, 4, none⟩ = some (u245004) := (blk_cell BK244.out 4).trans rfl; have hfz81_0 := blk_frozen BK244.out 0; have hfz81_1 := blk_frozen BK244.out 1; have hfz81_2 := blk_frozen BK244.out 2; have hfz81_3 := blk_frozen BK244.out 3; have hfz81_4 := blk_frozen BK244.out 4))
                       go_roundg kj46
                       case measure => have := HK1.out; have := HJ2.out; have := HJ21.out; have := HK4.out; have := HJ46.out; omega
                       case rel => exact ⟨(x9_4), (wrap64 (x10_4 + 1)), (x236000_4), (x236001_4), (x236002_4), (x236003_4), (x245003_4), (y259), (.slice Ao80 y259.length co80), (by first | rfl | (simp; done) | (simp [*]; done)), (by first | rfl | (simp; done) | (simp [*]; done)), H', ⟨by have := HK1.out; have := HJ2.out; have := HJ21.out; have := HK4.out; have := HJ46.out; omega⟩, ⟨by (with_reducible repeat (first | apply Kd.R_alloc | apply Kd.R_drewN | apply Kd.R_drew)); exact Kd.R_mono (Kd.R_far (p := ⟨gb244, 4, none⟩) (Kd.R_types HO_7.out BK244.out (by decide)) (fun _ hk => hk.2) (.slice Ao80 y259.length co80)) (fun _ hk => trivial)⟩, ⟨by (with_reducible repeat (first | apply Kd.R_alloc | apply Kd.R_drewN | apply Kd.R_drew)); exact Kd.R_mono (Kd.R_far (p := ⟨gb244, 4, none⟩) (Kd.R_types HO261.out BK244.out (by decide)) (fun _ hk => hk.2) (.slice Ao80 y259.length co80)) (fun _ hk => trivial)⟩, ⟨by (with_reducible repeat (first | refine blk_drewN ?_ _ | refine blk_drew ?_ | refine blk_alloc ?_ _)); refine blk_far ?_ NB235_244.out _; (with_reducible repeat (first | refine blk_drewN ?_ _ | refine blk_drew ?_ | refine blk_alloc ?_ _)); exact BK235.out⟩, ⟨by (with_reducible repeat (first | refine blk_drewN ?_ _ | refine blk_drew ?_ | refine blk_alloc ?_ _)); refine blk_put (cs := #[.string t247, .string t248, .string t249, .string x245003_4, u245004]) ?_ 4 _ rfl; (with_reducible repeat (first | refine blk_drewN ?_ _ | refine blk_drew ?_ | refine blk_alloc ?_ _)); exact BK244.out⟩, ⟨by repeat (first | (with_reducible first | exact HB.out | apply below_alloc | apply pw_below_drewN | apply below_drew1 | refine below_set ?_ GE235.out | refine below_set ?_ GE244.out) | exact HB.out)⟩⟩
                     ·rw [if_neg c56] at H
                      exact absurd H (by simp)
                 ·rw [if_neg c44] at H
                  exact absurd H (by simp)
                ·rw [if_neg c43] at H
                 have c43b0 : decide (x10_4 < (t241.length : Int)) = false := decide_eq_false c43
                 clear c43
                 by_cases c82 : x9_4 = 1
                 ·rw [if_pos c82] at H
                  have c82b0 : (x9_4 == 1) = true := beq_iff_eq.mpr c82
                  have c82b1 : (x9_4 != 1) = false := bne_eq_false_iff_eq.mpr c82
                  clear c82
                  by_cases c83 : (x245004_4.length : Int) > 32
                  ·rw [if_pos c83] at H
                   have c83b0 : decide (32 < (x245004_4.length : Int)) = true := decide_eq_true c83
                   have c83b1 : decide (32 < x245004_4.length) = true := decide_eq_true (by omega)
                   clear c83
                   simp only [Option.some.injEq, Prod.mk.injEq] at H
                   obtain ⟨rfl, rfl, rfl, rfl, rfl, rfl, rfl⟩ := H
                   have hnb84 := NB244_235.out
                   have hnc84 := NB235_244.out
                   have hcz85_0 : wr.cell? ⟨gb244, 0, none⟩ = some (.string t247) := (blk_cell BK244.out 0).trans rfl
                   have hcz85_1 : wr.cell? ⟨gb244, 1, none⟩ = some (.string t248) := (blk_cell BK244.out 1).trans rfl
                   have hcz85_2 : wr.cell? ⟨gb244, 2, none⟩ = some (.string t249) := (blk_cell BK244.out 2).trans rfl
                   have hcz85_3 : wr.cell? ⟨gb244, 3, none⟩ = some (.string x245003_4) := (blk_cell BK244.out 3).trans rfl
                   have hcz85_4 : wr.cell? ⟨gb244, 4, none⟩ = some (u245004) := (blk_cell BK244.out 4).trans rfl
                   have hfz85_0 := blk_frozen BK244.out 0
                   have hfz85_1 := blk_frozen BK244.out 1
                   have hfz85_2 := blk_frozen BK244.out 2
                   have hfz85_3 := blk_frozen BK244.out 3
                   have hfz85_4 := blk_frozen BK244.out 4
                   obtain ⟨Ao86, co86, eo86⟩ := Kd.R_slice HO_245004.out
                   subst eo86
                   have hcz87_0 : wr.cell? ⟨gb235, 0, none⟩ = some (.string x236000_4) := (blk_cell BK235.out 0).trans rfl
                   have hcz87_1 : wr.cell? ⟨gb235, 1, none⟩ = some (.string x236001_4) := (blk_cell BK235.out 1).trans rfl
                   have hcz87_2 : wr.cell? ⟨gb235, 2, none⟩ = some (.string x236002_4) := (blk_cell BK235.out 2).trans rfl
                   have hcz87_3 : wr.cell? ⟨gb235, 3, none⟩ = some (.string x236003_4) := (blk_cell BK235.out 3).trans rfl
                   have hcz87_4 : wr.cell? ⟨gb235, 4, none⟩ = some (.slice none 0 0) := (blk_cell BK235.out 4).trans rfl
                   have hfz87_0 := blk_frozen BK235.out 0
                   have hfz87_1 := blk_frozen BK235.out 1
                   have hfz87_2 := blk_frozen BK235.out 2
                   have hfz87_3 := blk_frozen BK235.out 3
                   have hfz87_4 := blk_frozen BK235.out 4
                   go_wp2
                   refine bodyPost_ret (results_ctt rfl _ _ gb235 25 #[.string (⟨#[]⟩ : ByteArray), .string (⟨#[]⟩ : ByteArray), .string (⟨#[]⟩ : ByteArray), .string (⟨#[]⟩ : ByteArray), .slice none 0 0] (0, 0) _ rfl (by (with_reducible repeat (first | refine blk_drewN ?_ _ | refine blk_drew ?_ | refine blk_alloc ?_ _)); refine blk_put (cs := #[.string (⟨#[]⟩ : ByteArray), .string (⟨#[]⟩ : ByteArray), .string (⟨#[]⟩ : ByteArray), .string (⟨#[]⟩ : ByteArray), .slice none 0 0]) ?_ 4 _ rfl; (with_reducible repeat (first | refine blk_drewN ?_ _ | refine blk_drew ?_ | refine blk_alloc ?_ _)); refine blk_put (cs := #[.string (⟨#[]⟩ : ByteArray), .string (⟨#[]⟩ : ByteArray), .string (⟨#[]⟩ : ByteArray), .string x236003_4, .slice none 0 0]) ?_ 3 _ rfl; (with_reducible repeat (first | refine blk_drewN ?_ _ | refine blk_drew ?_ | refine blk_alloc ?_ _)); refine blk_put (cs := #[.string (⟨#[]⟩ : ByteArray), .string (⟨#[]⟩ : ByteArray), .string x236002_4, .string x236003_4, .slice none 0 0]) ?_ 2 _ rfl; (with_reducible repeat (first | refine blk_drewN ?_ _ | refine blk_drew ?_ | refine blk_alloc ?_ _)); refine blk_put (cs := #[.string (⟨#[]⟩ : ByteArray), .string x236001_4, .string x236002_4, .string x236003_4, .slice none 0 0]) ?_ 1 _ rfl; (with_reducible repeat (first | refine blk_drewN ?_ _ | refine blk_drew ?_ | refine blk_alloc ?_ _)); refine blk_put (cs := #[.string x236000_4, .string x236001_4, .string x236002_4, .string x236003_4, .slice none 0 0]) ?_ 0 _ rfl; (with_reducible repeat (first | refine blk_drewN ?_ _ | refine blk_drew ?_ | refine blk_alloc ?_ _)); exact BK235.out) Tryd.underlying25 rfl (by kernel_rfl)) rfl ?_
                   exact ⟨_, by first | rfl | (simp [errW_none, errW_some] <;> rfl) | (simp [*, errW_none, errW_some] <;> rfl), by first | exact Kd.R_nil _ _ _ _ _ | exact Kd.N_nil _ _ _ _ _ | exact Kd.V_nil _ _ _ _ _ | exact Kd.Q_nil _ _ _ _ _ | exact Kd.S_nil _ _ _ _ _, by repeat (first | (with_reducible first | exact HB.out | apply below_alloc | apply pw_below_drewN | apply below_drew1 | refine below_set ?_ GE235.out | refine below_set ?_ GE244.out) | exact HB.out)⟩
                  ·rw [if_neg c83] at H
                   have c83b0 : decide (32 < (x245004_4.length : Int)) = false := decide_eq_false c83
                   have c83b1 : decide (32 < x245004_4.length) = false := decide_eq_false (by omega)
                   clear c83
                   simp only [Option.some.injEq, Prod.mk.injEq] at H
                   obtain ⟨rfl, rfl, rfl, rfl, rfl, rfl, rfl⟩ := H
                   have hnb88 := NB244_235.out
                   have hnc88 := NB235_244.out
                   have hcz89_0 : wr.cell? ⟨gb244, 0, none⟩ = some (.string t247) := (blk_cell BK244.out 0).trans rfl
                   have hcz89_1 : wr.cell? ⟨gb244, 1, none⟩ = some (.string t248) := (blk_cell BK244.out 1).trans rfl
                   have hcz89_2 : wr.cell? ⟨gb244, 2, none⟩ = some (.string t249) := (blk_cell BK244.out 2).trans rfl
                   have hcz89_3 : wr.cell? ⟨gb244, 3, none⟩ = some (.string x245003_4) := (blk_cell BK244.out 3).trans rfl
                   have hcz89_4 : wr.cell? ⟨gb244, 4, none⟩ = some (u245004) := (blk_cell BK244.out 4).trans rfl
                   have hfz89_0 := blk_frozen BK244.out 0
                   have hfz89_1 := blk_frozen BK244.out 1
                   have hfz89_2 := blk_frozen BK244.out 2
                   have hfz89_3 := blk_frozen BK244.out 3
                   have hfz89_4 := blk_frozen BK244.out 4
                   obtain ⟨Ao90, co90, eo90⟩ := Kd.R_slice HO_245004.out
                   subst eo90
                   have hcz91_0 : wr.cell? ⟨gb235, 0, none⟩ = some (.string x236000_4) := (blk_cell BK235.out 0).trans rfl
                   have hcz91_1 : wr.cell? ⟨gb235, 1, none⟩ = some (.string x236001_4) := (blk_cell BK235.out 1).trans rfl
                   have hcz91_2 : wr.cell? ⟨gb235, 2, none⟩ = some (.string x236002_4) := (blk_cell BK235.out 2).trans rfl
                   have hcz91_3 : wr.cell? ⟨gb235, 3, none⟩ = some (.string x236003_4) := (blk_cell BK235.out 3).trans rfl
                   have hcz91_4 : wr.cell? ⟨gb235, 4, none⟩ = some (.slice none 0 0) := (blk_cell BK235.out 4).trans rfl
                   have hfz91_0 := blk_frozen BK235.out 0
                   have hfz91_1 := blk_frozen BK235.out 1
                   have hfz91_2 := blk_frozen BK235.out 2
                   have hfz91_3 := blk_frozen BK235.out 3
                   have hfz91_4 := blk_frozen BK235.out 4
                   go_wp2
                   refine bodyPost_ret (results_ctt rfl _ _ gb235 25 #[.string t247, .string t248, .string t249, .string x245003_4, .slice Ao90 x245004_4.length co90] (0, 0) _ rfl (by (with_reducible repeat (first | refine blk_drewN ?_ _ | refine blk_drew ?_ | refine blk_alloc ?_ _)); refine blk_put (cs := #[.string t247, .string t248, .string t249, .string x245003_4, .slice none 0 0]) ?_ 4 _ rfl; (with_reducible repeat (first | refine blk_drewN ?_ _ | refine blk_drew ?_ | refine blk_alloc ?_ _)); refine blk_put (cs := #[.string t247, .string t248, .string t249, .string x236003_4, .slice none 0 0]) ?_ 3 _ rfl; (with_reducible repeat (first | refine blk_drewN ?_ _ | refine blk_drew ?_ | refine blk_alloc ?_ _)); refine blk_put (cs := #[.string t247, .string t248, .string x236002_4, .string x236003_4, .slice none 0 0]) ?_ 2 _ rfl; (with_reducible repeat (first | refine blk_drewN ?_ _ | refine blk_drew ?_ | refine blk_alloc ?_ _)); refine blk_put (cs := #[.string t247, .string x236001_4, .string x236002_4, .string x236003_4, .slice none 0 0]) ?_ 1 _ rfl; (with_reducible repeat (first | refine blk_drewN ?_ _ | refine blk_drew ?_ | refine blk_alloc ?_ _)); refine blk_put (cs := #[.string x236000_4, .string x236001_4, .string x236002_4, .string x236003_4, .slice none 0 0]) ?_ 0 _ rfl; (with_reducible repeat (first | refine blk_drewN ?_ _ | refine blk_drew ?_ | refine blk_alloc ?_ _)); exact BK235.out) Tryd.underlying25 rfl (by kernel_rfl)) rfl ?_
                   exact ⟨_, by first | rfl | (simp [errW_none, errW_some] <;> rfl) | (simp [*, errW_none, errW_some] <;> rfl), by (with_reducible repeat (first | apply Kd.R_alloc | apply Kd.R_drewN | apply Kd.R_drew)); exact Kd.R_mono (Kd.R_far (p := ⟨gb235, 4, none⟩) (Kd.R_far (p := ⟨gb235, 3, none⟩) (Kd.R_far (p := ⟨gb235, 2, none⟩) (Kd.R_far (p := ⟨gb235, 1, none⟩) (Kd.R_far (p := ⟨gb235, 0, none⟩) (Kd.R_types HO_245004.out BK235.out (by decide)) (fun _ hk => hk.2) (.string t247)) (fun _ hk => hk.2) (.string t248)) (fun _ hk => hk.2) (.string t249)) (fun _ hk => hk.2) (.string x245003_4)) (fun _ hk => hk.2) (.slice Ao90 x245004_4.length co90)) (fun _ hk => trivial), by repeat (first | (with_reducible first | exact HB.out | apply below_alloc | apply pw_below_drewN | apply below_drew1 | refine below_set ?_ GE235.out | refine below_set ?_ GE244.out) | exact HB.out)⟩
                 ·rw [if_neg c82] at H
                  have c82b0 : (x9_4 == 1) = false := beq_eq_false_iff_ne.mpr c82
                  have c82b1 : (x9_4 != 1) = true := bne_iff_ne.mpr c82
                  simp only [Option.some.injEq, Prod.mk.injEq] at H
                  obtain ⟨rfl, rfl, rfl, rfl, rfl, rfl, rfl⟩ := H
                  have hnb92 := NB235_244.out
                  have hnc92 := NB244_235.out
                  have hcz93_0 : wr.cell? ⟨gb235, 0, none⟩ = some (.string x236000_4) := (blk_cell BK235.out 0).trans rfl
                  have hcz93_1 : wr.cell? ⟨gb235, 1, none⟩ = some (.string x236001_4) := (blk_cell BK235.out 1).trans rfl
                  have hcz93_2 : wr.cell? ⟨gb235, 2, none⟩ = some (.string x236002_4) := (blk_cell BK235.out 2).trans rfl
                  have hcz93_3 : wr.cell? ⟨gb235, 3, none⟩ = some (.string x236003_4) := (blk_cell BK235.out 3).trans rfl
                  have hcz93_4 : wr.cell? ⟨gb235, 4, none⟩ = some (.slice none 0 0) := (blk_cell BK235.out 4).trans rfl
                  have hfz93_0 := blk_frozen BK235.out 0
                  have hfz93_1 := blk_frozen BK235.out 1
                  have hfz93_2 := blk_frozen BK235.out 2
                  have hfz93_3 := blk_frozen BK235.out 3
                  have hfz93_4 := blk_frozen BK235.out 4
                  go_wp2
                  refine bodyPost_ret (results_ctt rfl _ _ gb235 25 #[.string (⟨#[]⟩ : ByteArray), .string (⟨#[]⟩ : ByteArray), .string (⟨#[]⟩ : ByteArray), .string (⟨#[]⟩ : ByteArray), .slice none 0 0] (0, 0) _ rfl (by (with_reducible repeat (first | refine blk_drewN ?_ _ | refine blk_drew ?_ | refine blk_alloc ?_ _)); refine blk_put (cs := #[.string (⟨#[]⟩ : ByteArray), .string (⟨#[]⟩ : ByteArray), .string (⟨#[]⟩ : ByteArray), .string (⟨#[]⟩ : ByteArray), .slice none 0 0]) ?_ 4 _ rfl; (with_reducible repeat (first | refine blk_drewN ?_ _ | refine blk_drew ?_ | refine blk_alloc ?_ _)); refine blk_put (cs := #[.string (⟨#[]⟩ : ByteArray), .string (⟨#[]⟩ : ByteArray), .string (⟨#[]⟩ : ByteArray), .string x236003_4, .slice none 0 0]) ?_ 3 _ rfl; (with_reducible repeat (first | refine blk_drewN ?_ _ | refine blk_drew ?_ | refine blk_alloc ?_ _)); refine blk_put (cs := #[.string (⟨#[]⟩ : ByteArray), .string (⟨#[]⟩ : ByteArray), .string x236002_4, .string x236003_4, .slice none 0 0]) ?_ 2 _ rfl; (with_reducible repeat (first | refine blk_drewN ?_ _ | refine blk_drew ?_ | refine blk_alloc ?_ _)); refine blk_put (cs := #[.string (⟨#[]⟩ : ByteArray), .string x236001_4, .string x236002_4, .string x236003_4, .slice none 0 0]) ?_ 1 _ rfl; (with_reducible repeat (first | refine blk_drewN ?_ _ | refine blk_drew ?_ | refine blk_alloc ?_ _)); refine blk_put (cs := #[.string x236000_4, .string x236001_4, .string x236002_4, .string x236003_4, .slice none 0 0]) ?_ 0 _ rfl; (with_reducible repeat (first | refine blk_drewN ?_ _ | refine blk_drew ?_ | refine blk_alloc ?_ _)); exact BK235.out) Tryd.underlying25 rfl (by kernel_rfl)) rfl ?_
                  exact ⟨_, by first | rfl | (simp [errW_none, errW_some] <;> rfl) | (simp [*, errW_none, errW_some] <;> rfl), by first | exact Kd.R_nil _ _ _ _ _ | exact Kd.N_nil _ _ _ _ _ | exact Kd.V_nil _ _ _ _ _ | exact Kd.Q_nil _ _ _ _ _ | exact Kd.S_nil _ _ _ _ _, by repeat (first | (with_reducible first | exact HB.out | apply below_alloc | apply pw_below_drewN | apply below_drew1 | refine below_set ?_ GE235.out | refine below_set ?_ GE244.out) | exact HB.out)⟩
             ·replace c33 := Bool.eq_false_iff.mpr c33
              subst c33
              have H1 : (some ((⟨#[]⟩ : ByteArray), (⟨#[]⟩ : ByteArray), (⟨#[]⟩ : ByteArray), (⟨#[]⟩ : ByteArray), ([] : List (S38)), 0, 4)) = some (r1, r2, r3, r4, r5, r6, r7) := by rw [if_neg (show ¬ (false = true) by decide)] at H; exact H
              clear H
              have H := H1
              clear H1
              simp only [Option.some.injEq, Prod.mk.injEq] at H
              obtain ⟨rfl, rfl, rfl, rfl, rfl, rfl, rfl⟩ := H
              obtain ⟨i094, hi094, _, hsz94, _⟩ := info_parts info5
              obtain ⟨hcut94, hA94, hC94⟩ := print_take_of (P := Tryd.prog) (Value.int .u8) 0 22 5 .i64 Tryd.underlying22 hi094 hsz94 A0 c0 l0 x5_1 (of_decide_eq_true (by first | (with_reducible assumption) | assumption)) (of_decide_eq_true (by first | (with_reducible assumption) | assumption)) HC0.out
              have HR240 := Aside0.mk (Kd.C_of_reads (h1 := fun _ => rfl) (hA94 _ (Kd.reads_of_C HR0.out)))
              have HC240 := Aside0.mk hC94
              clear hA94 hC94 hi094 hsz94
              have hcv95 := Kd.C_string (P := Tryd.prog) (A := A0) (c := c0) Tryd.underlying22 Tryd.underlying5 Tryd.underlying9 (Kd.C_below HR240.out HB.out)
              (try (have hcv95d := fun m_ : Nat => Kd.C_string (P := Tryd.prog) (A := A0) (c := c0) Tryd.underlying22 Tryd.underlying5 Tryd.underlying9 (Kd.C_drewN ((Kd.C_below HR240.out HB.out)) m_)))
              (try (have hcv95l := hcv95; rw [show (l0.take (x5_1 : Int).toNat).length = x5_1.toNat from (by rw [List.length_take]; have h_ : (x5_1 : Int) ≤ (l0.length : Int) := of_decide_eq_true (by first | (with_reducible assumption) | assumption); omega)] at hcv95l))
              go_wp2_with (first | ((with_reducible refine gate_callee (f := 42) rfl ?_); refine goesL_ (some 77) rfl rfl Tryd.func42 (by kernel_rfl) rfl #[.string (strOfNums (l0.take (x5_1 : Int).toNat))] rfl (by (try simp only [List.map_toArray, List.map_cons, List.map_nil]); first | done | rfl | (simp only [List.length_drop, List.length_take]; rfl)) ?_; (with_reducible refine (tollgateref09_lines.calls kj21 (strOfNums (l0.take (x5_1 : Int).toNat)) t241 _ A30.out).mono ?_); rintro e w96 ⟨v242, rfl, ho0, hb⟩; refine ⟨_, rfl, ?_⟩; have n0_ := Aside0.mk (Kd.R_lower ho0 (below_size (by repeat (first | (with_reducible first | exact HB.out | apply below_alloc | apply pw_below_drewN | apply below_drew1 | refine below_set ?_ GE235.out) | exact HB.out)))); have n1_ := Aside0.mk (blk_below (g := gb235) (o := .cells #[.string (⟨#[]⟩ : ByteArray), .string (⟨#[]⟩ : ByteArray), .string (⟨#[]⟩ : ByteArray), .string (⟨#[]⟩ : ByteArray), .slice none 0 0] 25 (0, 0)) (by (with_reducible repeat (first | refine blk_drewN ?_ _ | refine blk_drew ?_ | refine blk_alloc ?_ _)); exact BK235.out) hb); have n2_ := Aside0.mk (below_step (by repeat (first | (with_reducible first | exact HB.out | apply below_alloc | apply pw_below_drewN | apply below_drew1 | refine below_set ?_ GE235.out) | exact HB.out)) hb); clear BK235; clear HB; have HO243 := n0_; have BK235 := n1_; have HB := n2_; clear n0_ n1_ n2_; (try clear hb); (try clear hb2); (try clear hk); (try clear hi); (try clear ho0)) | ((with_reducible refine gate_dst (N := 8) rfl ?_); (try (refine gate_guard (by rfl) ?_; dsimp only)); refine box_event ?hg (N := 8) ?hd (cs := #[.string (⟨#[]⟩ : ByteArray), .string (⟨#[]⟩ : ByteArray), .string (⟨#[]⟩ : ByteArray), .string (⟨#[]⟩ : ByteArray), .slice none 0 0]) (t := 25) ?hr ?_; (case hd => rfl); (case hg => rfl); (case hr => first | (go_simp; done) | (go_simp; rfl)); intro gb244 hg w97 hbox hb; have n0_ := Aside0.mk (Kd.R_below (by (with_reducible repeat (first | apply Kd.R_alloc | apply Kd.R_drewN | apply Kd.R_drew)); exact HO243.out) hb); have n1_ := Aside0.mk (blk_below (g := gb235) (o := .cells #[.string (⟨#[]⟩ : ByteArray), .string (⟨#[]⟩ : ByteArray), .string (⟨#[]⟩ : ByteArray), .string (⟨#[]⟩ : ByteArray), .slice none 0 0] 25 (0, 0)) (by (with_reducible repeat (first | refine blk_drewN ?_ _ | refine blk_drew ?_ | refine blk_alloc ?_ _)); exact BK235.out) hb); have n2_ := Aside0.mk (below_step (by repeat (first | (with_reducible first | exact HB.out | apply below_alloc | apply pw_below_drewN | apply below_drew1 | refine below_set ?_ GE235.out) | exact HB.out)) hb); have n3_ := Aside0.mk (hbox); have n4_ := Aside0.mk ((by rw [hg]; exact (below_size (by repeat (first | (with_reducible first | exact HB.out | apply below_alloc | apply pw_below_drewN | apply below_drew1 | refine below_set ?_ GE235.out) | exact HB.out))) : w.heap.size ≤ gb244)); have n5_ := Aside0.mk ((by rw [hg]; exact (below_size (by repeat (first | (with_reducible first | exact HB.out | apply below_alloc | apply pw_below_drewN | apply below_drew1 | refine below_set ?_ GE235.out) | exact HB.out))) : w.heap.size ≤ gb244)); have n6_ := Aside0.mk ((by rw [hg]; exact Nat.ne_of_lt (blk_lt (g := gb235) (o := .cells #[.string (⟨#[]⟩ : ByteArray), .string (⟨#[]⟩ : ByteArray), .string (⟨#[]⟩ : ByteArray), .string (⟨#[]⟩ : ByteArray), .slice none 0 0] 25 (0, 0)) (by (with_reducible repeat (first | refine blk_drewN ?_ _ | refine blk_drew ?_ | refine blk_alloc ?_ _)); exact BK235.out)) : gb235 ≠ gb244)); have n7_ := Aside0.mk ((by rw [hg]; exact Nat.ne_of_gt (blk_lt (g := gb235) (o := .cells #[.string (⟨#[]⟩ : ByteArray), .string (⟨#[]⟩ : ByteArray), .string (⟨#[]⟩ : ByteArray), .string (⟨#[]⟩ : ByteArray), .slice none 0 0] 25 (0, 0)) (by (with_reducible repeat (first | refine blk_drewN ?_ _ | refine blk_drew ?_ | refine blk_alloc ?_ _)); exact BK235.out)) : gb244 ≠ gb235)); clear HO243; clear BK235; clear HB; have HO243 := n0_; have BK235 := n1_; have HB := n2_; have BK244 := n3_; have GW244 := n4_; have GE244 := n5_; have NB235_244 := n6_; have NB244_235 := n7_; clear n0_ n1_ n2_ n3_ n4_ n5_ n6_ n7_; clear hb hbox hg; have hnb98 := NB244_235.out; have hnc98 := NB235_244.out; have hcz99_0 : w97.cell? ⟨gb244, 0, none⟩ = some (.string (⟨#[]⟩ : ByteArray)) := (blk_cell BK244.out 0).trans rfl; have hcz99_1 : w97.cell? ⟨gb244, 1, none⟩ = some (.string (⟨#[]⟩ : ByteArray)) := (blk_cell BK244.out 1).trans rfl; have hcz99_2 : w97.cell? ⟨gb244, 2, none⟩ = some (.string (⟨#[]⟩ : ByteArray)) := (blk_cell BK244.out 2).trans rfl; have hcz99_3 : w97.cell? ⟨gb244, 3, none⟩ = some (.string (⟨#[]⟩ : ByteArray)) := (blk_cell BK244.out 3).trans rfl; have hcz99_4 : w97.cell? ⟨gb244, 4, none⟩ = some (.slice none 0 0) := (blk_cell BK244.out 4).trans rfl; have hfz99_0 := blk_frozen BK244.out 0; have hfz99_1 := blk_frozen BK244.out 1; have hfz99_2 := blk_frozen BK244.out 2; have hfz99_3 := blk_frozen BK244.out 3; have hfz99_4 := blk_frozen BK244.out 4; obtain ⟨Ao100, co100, eo100⟩ := Kd.R_slice HO243.out; subst eo100; have p245 : 0 ≤ (0 : Int) := (by omega); have q245 : 0 < (t241.length : Int) := of_decide_eq_true (by first | (with_reducible assumption) | assumption); obtain ⟨ad245, e245, hx245_0⟩ := Kd.at_string (Kd.R_reads' HO243.out).2.2 0 p245 q245; cases e245; have qi245 : (0 < t241.length) = True := eq_true (by omega); (try rw [show ((0 : Int)).toNat = 0 from rfl] at hx245_0); (try rw [Addr.add_zero'] at hx245_0); have hn245_0 : ad245.block ≠ gb244 := Kd.own_blk (Kd.R_ne HO243.out BK244.out (by decide)); have hn245_1 : ad245.block ≠ gb244 := Kd.own_blk (Kd.R_ne HO243.out BK244.out (by decide)); have hn245_2 : ad245.block ≠ gb244 := Kd.own_blk (Kd.R_ne HO243.out BK244.out (by decide)); have hn245_3 : ad245.block ≠ gb244 := Kd.own_blk (Kd.R_ne HO243.out BK244.out (by decide)); have hn245_4 : ad245.block ≠ gb244 := Kd.own_blk (Kd.R_ne HO243.out BK244.out (by decide)); replace hx245_0 := (cell_far (p := ⟨gb244, 0, none⟩) (by first | (rw [add_block]; exact hn245_0) | (show (Addr.add _ _).block ≠ _; rw [add_block]; exact hn245_0) | exact hn245_0) (.string (⟨#[]⟩ : ByteArray))).trans hx245_0; replace hx245_0 := (cell_far (p := ⟨gb244, 1, none⟩) (by first | (rw [add_block]; exact hn245_1) | (show (Addr.add _ _).block ≠ _; rw [add_block]; exact hn245_1) | exact hn245_1) (.string (⟨#[]⟩ : ByteArray))).trans hx245_0; replace hx245_0 := (cell_far (p := ⟨gb244, 2, none⟩) (by first | (rw [add_block]; exact hn245_2) | (show (Addr.add _ _).block ≠ _; rw [add_block]; exact hn245_2) | exact hn245_2) (.string (⟨#[]⟩ : ByteArray))).trans hx245_0; replace hx245_0 := (cell_far (p := ⟨gb244, 3, none⟩) (by first | (rw [add_block]; exact hn245_3) | (show (Addr.add _ _).block ≠ _; rw [add_block]; exact hn245_3) | exact hn245_3) (.string (⟨#[]⟩ : ByteArray))).trans hx245_0; replace hx245_0 := (cell_far (p := ⟨gb244, 4, none⟩) (by first | (rw [add_block]; exact hn245_4) | (show (Addr.add _ _).block ≠ _; rw [add_block]; exact hn245_4) | exact hn245_4) (.slice none 0 0)).trans hx245_0; clear hn245_0; clear hn245_1; clear hn245_2; clear hn245_3; clear hn245_4; replace p245 := eq_true p245; replace q245 := eq_true q245) | ((with_reducible refine gate_callee (f := 43) rfl ?_); refine goesL_ (some 82) rfl rfl Tryd.func43 (by kernel_rfl) rfl #[.string (rdOf ByteArray.empty t241 0), .pointer (some ⟨gb244, 0, none⟩)] rfl (by (try simp only [List.map_toArray, List.map_cons, List.map_nil]); first | done | rfl | (simp only [List.length_drop, List.length_take]; rfl)) ?_; have hI_ := (Kd.R_far (p := ⟨gb244, 4, none⟩) (Kd.R_far (p := ⟨gb244, 3, none⟩) (Kd.R_far (p := ⟨gb244, 2, none⟩) (Kd.R_far (p := ⟨gb244, 1, none⟩) (Kd.R_far (p := ⟨gb244, 0, none⟩) (Kd.R_types HO243.out BK244.out (by decide)) (fun _ hk => hk.2) (.string (⟨#[]⟩ : ByteArray))) (fun _ hk => hk.2) (.string (⟨#[]⟩ : ByteArray))) (fun _ hk => hk.2) (.string (⟨#[]⟩ : ByteArray))) (fun _ hk => hk.2) (.string (⟨#[]⟩ : ByteArray))) (fun _ hk => hk.2) (.slice none 0 0)); (with_reducible refine (ref_first.box kj21 (rdOf ByteArray.empty t241 0) gb244 false t247 t248 t249 t250 w _ ?side1 GE244.out ?side2 A32.out).mono ?_); (case side1 => exact (by (with_reducible repeat (first | refine blk_drewN ?_ _ | refine blk_drew ?_ | refine blk_alloc ?_ _)); refine blk_put (cs := #[.string (⟨#[]⟩ : ByteArray), .string (⟨#[]⟩ : ByteArray), .string (⟨#[]⟩ : ByteArray), .string (⟨#[]⟩ : ByteArray), .slice none 0 0]) ?_ 4 _ rfl; (with_reducible repeat (first | refine blk_drewN ?_ _ | refine blk_drew ?_ | refine blk_alloc ?_ _)); refine blk_put (cs := #[.string (⟨#[]⟩ : ByteArray), .string (⟨#[]⟩ : ByteArray), .string (⟨#[]⟩ : ByteArray), .string (⟨#[]⟩ : ByteArray), .slice none 0 0]) ?_ 3 _ rfl; (with_reducible repeat (first | refine blk_drewN ?_ _ | refine blk_drew ?_ | refine blk_alloc ?_ _)); refine blk_put (cs := #[.string (⟨#[]⟩ : ByteArray), .string (⟨#[]⟩ : ByteArray), .string (⟨#[]⟩ : ByteArray), .string (⟨#[]⟩ : ByteArray), .slice none 0 0]) ?_ 2 _ rfl; (with_reducible repeat (first | refine blk_drewN ?_ _ | refine blk_drew ?_ | refine blk_alloc ?_ _)); refine blk_put (cs := #[.string (⟨#[]⟩ : ByteArray), .string (⟨#[]⟩ : ByteArray), .string (⟨#[]⟩ : ByteArray), .string (⟨#[]⟩ : ByteArray), .slice none 0 0]) ?_ 1 _ rfl; (with_reducible repeat (first | refine blk_drewN ?_ _ | refine blk_drew ?_ | refine blk_alloc ?_ _)); refine blk_put (cs := #[.string (⟨#[]⟩ : ByteArray), .string (⟨#[]⟩ : ByteArray), .string (⟨#[]⟩ : ByteArray), .string (⟨#[]⟩ : ByteArray), .slice none 0 0]) ?_ 0 _ rfl; (with_reducible repeat (first | refine blk_drewN ?_ _ | refine blk_drew ?_ | refine blk_alloc ?_ _)); exact BK244.out)); (case side2 => exact (by repeat (first | (with_reducible first | exact HB.out | apply below_alloc | apply pw_below_drewN | apply below_drew1 | refine below_set ?_ GE235.out | refine below_set ?_ GE244.out) | exact HB.out))); rintro e w101 ⟨rfl, hbox_, hbel_, hkeep_⟩; refine ⟨_, rfl, ?_⟩; have n0_ := Aside0.mk (Kd.R_mono (keepR hI_ hkeep_ (fun _ hk => hk.2)) (fun _ h_ => h_.1)); have n1_ := Aside0.mk (blk_keepB (g := gb235) (o := .cells #[.string (⟨#[]⟩ : ByteArray), .string (⟨#[]⟩ : ByteArray), .string (⟨#[]⟩ : ByteArray), .string (⟨#[]⟩ : ByteArray), .slice none 0 0] 25 (0, 0)) (by (with_reducible repeat (first | refine blk_drewN ?_ _ | refine blk_drew ?_ | refine blk_alloc ?_ _)); refine blk_far ?_ NB235_244.out _; (with_reducible repeat (first | refine blk_drewN ?_ _ | refine blk_drew ?_ | refine blk_alloc ?_ _)); refine blk_far ?_ NB235_244.out _; (with_reducible repeat (first | refine blk_drewN ?_ _ | refine blk_drew ?_ | refine blk_alloc ?_ _)); refine blk_far ?_ NB235_244.out _; (with_reducible repeat (first | refine blk_drewN ?_ _ | refine blk_drew ?_ | refine blk_alloc ?_ _)); refine blk_far ?_ NB235_244.out _; (with_reducible repeat (first | refine blk_drewN ?_ _ | refine blk_drew ?_ | refine blk_alloc ?_ _)); refine blk_far ?_ NB235_244.out _; (with_reducible repeat (first | refine blk_drewN ?_ _ | refine blk_drew ?_ | refine blk_alloc ?_ _)); exact BK235.out) hkeep_ NB235_244.out); have n2_ := Aside0.mk hbox_; have n3_ := Aside0.mk hbel_; clear hI_ hbox_ hbel_ hkeep_; clear HO243; clear BK235; clear BK244; clear HB; have HO243 := n0_; have BK235 := n1_; have BK244 := n2_; have HB := n3_; clear n0_ n1_ n2_ n3_; (try clear hb); (try clear hb2); (try clear hk); (try clear hi); have hcz102_0 : w101.cell? ⟨gb244, 0, none⟩ = some (.string t247) := (blk_cell BK244.out 0).trans rfl; have hcz102_1 : w101.cell? ⟨gb244, 1, none⟩ = some (.string t248) := (blk_cell BK244.out 1).trans rfl; have hcz102_2 : w101.cell? ⟨gb244, 2, none⟩ = some (.string t249) := (blk_cell BK244.out 2).trans rfl; have hcz102_3 : w101.cell? ⟨gb244, 3, none⟩ = some (.string t250) := (blk_cell BK244.out 3).trans rfl; have hcz102_4 : w101.cell? ⟨gb244, 4, none⟩ = some (.slice none 0 0) := (blk_cell BK244.out 4).trans rfl; have hfz102_0 := blk_frozen BK244.out 0; have hfz102_1 := blk_frozen BK244.out 1; have hfz102_2 := blk_frozen BK244.out 2; have hfz102_3 := blk_frozen BK244.out 3; have hfz102_4 := blk_frozen BK244.out 4; have hcz103_0 : w101.cell? ⟨gb235, 0, none⟩ = some (.string (⟨#[]⟩ : ByteArray)) := (blk_cell BK235.out 0).trans rfl; have hcz103_1 : w101.cell? ⟨gb235, 1, none⟩ = some (.string (⟨#[]⟩ : ByteArray)) := (blk_cell BK235.out 1).trans rfl; have hcz103_2 : w101.cell? ⟨gb235, 2, none⟩ = some (.string (⟨#[]⟩ : ByteArray)) := (blk_cell BK235.out 2).trans rfl; have hcz103_3 : w101.cell? ⟨gb235, 3, none⟩ = some (.string (⟨#[]⟩ : ByteArray)) := (blk_cell BK235.out 3).trans rfl; have hcz103_4 : w101.cell? ⟨gb235, 4, none⟩ = some (.slice none 0 0) := (blk_cell BK235.out 4).trans rfl; have hfz103_0 := blk_frozen BK235.out 0; have hfz103_1 := blk_frozen BK235.out 1; have hfz103_2 := blk_frozen BK235.out 2; have hfz103_3 := blk_frozen BK235.out 3; have hfz103_4 := blk_frozen BK235.out 4))
              refine bodyPost_ret (results_ctt rfl _ _ gb235 25 #[.string (⟨#[]⟩ : ByteArray), .string (⟨#[]⟩ : ByteArray), .string (⟨#[]⟩ : ByteArray), .string (⟨#[]⟩ : ByteArray), .slice none 0 0] (0, 0) _ rfl (by (with_reducible repeat (first | refine blk_drewN ?_ _ | refine blk_drew ?_ | refine blk_alloc ?_ _)); refine blk_put (cs := #[.string (⟨#[]⟩ : ByteArray), .string (⟨#[]⟩ : ByteArray), .string (⟨#[]⟩ : ByteArray), .string (⟨#[]⟩ : ByteArray), .slice none 0 0]) ?_ 4 _ rfl; (with_reducible repeat (first | refine blk_drewN ?_ _ | refine blk_drew ?_ | refine blk_alloc ?_ _)); refine blk_put (cs := #[.string (⟨#[]⟩ : ByteArray), .string (⟨#[]⟩ : ByteArray), .string (⟨#[]⟩ : ByteArray), .string (⟨#[]⟩ : ByteArray), .slice none 0 0]) ?_ 3 _ rfl; (with_reducible repeat (first | refine blk_drewN ?_ _ | refine blk_drew ?_ | refine blk_alloc ?_ _)); refine blk_put (cs := #[.string (⟨#[]⟩ : ByteArray), .string (⟨#[]⟩ : ByteArray), .string (⟨#[]⟩ : ByteArray), .string (⟨#[]⟩ : ByteArray), .slice none 0 0]) ?_ 2 _ rfl; (with_reducible repeat (first | refine blk_drewN ?_ _ | refine blk_drew ?_ | refine blk_alloc ?_ _)); refine blk_put (cs := #[.string (⟨#[]⟩ : ByteArray), .string (⟨#[]⟩ : ByteArray), .string (⟨#[]⟩ : ByteArray), .string (⟨#[]⟩ : ByteArray), .slice none 0 0]) ?_ 1 _ rfl; (with_reducible repeat (first | refine blk_drewN ?_ _ | refine blk_drew ?_ | refine blk_alloc ?_ _)); refine blk_put (cs := #[.string (⟨#[]⟩ : ByteArray), .string (⟨#[]⟩ : ByteArray), .string (⟨#[]⟩ : ByteArray), .string (⟨#[]⟩ : ByteArray), .slice none 0 0]) ?_ 0 _ rfl; (with_reducible repeat (first | refine blk_drewN ?_ _ | refine blk_drew ?_ | refine blk_alloc ?_ _)); exact BK235.out) Tryd.underlying25 rfl (by kernel_rfl)) rfl ?_
              exact ⟨_, by first | rfl | (simp [errW_none, errW_some] <;> rfl) | (simp [*, errW_none, errW_some] <;> rfl), by first | exact Kd.R_nil _ _ _ _ _ | exact Kd.N_nil _ _ _ _ _ | exact Kd.V_nil _ _ _ _ _ | exact Kd.Q_nil _ _ _ _ _ | exact Kd.S_nil _ _ _ _ _, by repeat (first | (with_reducible first | exact HB.out | apply below_alloc | apply pw_below_drewN | apply below_drew1 | refine below_set ?_ GE235.out | refine below_set ?_ GE244.out) | exact HB.out)⟩
            ·rw [if_neg c31] at H
             exact absurd H (by simp)
           ·rw [if_neg c29] at H
            exact absurd H (by simp)
          ·rw [if_neg c28] at H
           exact absurd H (by simp)

end Go.Proofs.YtabkdmfnafeaeaaDoor.R
