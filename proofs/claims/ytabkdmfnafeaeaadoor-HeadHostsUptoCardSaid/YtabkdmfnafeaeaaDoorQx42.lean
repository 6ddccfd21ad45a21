-- Laid by lay.py, a program of this session's, out of the translation (the kit's printer with additions of ours). Lean checks it.
import Derived.Test.YtabkdmfnafeaeaaDoorYrow
import Derived.Test.YtabkdmfnafeaeaaDoorQx0
import Derived.Test.YtabkdmfnafeaeaaDoorQx6
import Derived.Test.YtabkdmfnafeaeaaDoorQx8
import Derived.Test.YtabkdmfnafeaeaaDoorQx14
import Derived.Test.YtabkdmfnafeaeaaDoorQx15
import Derived.Test.YtabkdmfnafeaeaaDoorQx18
import Derived.Test.YtabkdmfnafeaeaaDoorQx23
namespace Go.Proofs.YtabkdmfnafeaeaaDoor.Q
open Go.RowKit Go.Proofs.YtabkdmfnafeaeaaDoorW.PrintWords Go.Proofs.YtabkdmfnafeaeaaDoorW.PrintLast Go.Proofs.YtabkdmfnafeaeaaDoorW.PrintMore
attribute [local go_sem] max2_int min2_int max_two min_two max_three min_three max_four min_four   -- for this text's walks alone
attribute [local go_sem] fbin_eql fbin_neq fbin_lss fbin_leq fbin_gtr fbin_geq frun_add frun_sub frun_mul frun_quo frun_store fun_neg fcv_int fcv_same fb92 fb116
set_option linter.unusedVariables false
set_option linter.unusedSimpArgs false

/-! ### head_Write: function 21 -/
mutual
def head_Write.j0 : Nat → Bool → ByteArray → ByteArray → ByteArray → ByteArray → List (S38) → Option (List Int × Int)
 | 0, _, _, _, _, _, _ => none
 | k + 1, x4, x369000, x369001, x369002, x369003, x369004 => head_Write.l0 k x4 0 x369004 (x369004.length : Int) 0 x369000 x369001 x369002 x369003 x369004
def head_Write.l0 : Nat → Bool → Int → List (S38) → Int → Int → ByteArray → ByteArray → ByteArray → ByteArray → List (S38) → Option (List Int × Int)
 | 0, _, _, _, _, _, _, _, _, _, _ => none
 | k + 1, x4, x5, x27, x28, x29, x369000, x369001, x369002, x369003, x369004 => if x29 < x28 then (if 0 ≤ x29 then (if x29 < (x27.length : Int) then (if x4 = true then ((head_token.f k ((rd_T38 x27 x29).f0)).bind fun t374 => (if t374 = true then ((head_lower.f ((rd_T38 x27 x29).f0)).bind fun t375 => (if t375.toList = ((rd_T38 x27 x29).f0).toList then ((head_value.f k ((rd_T38 x27 x29).f1)).bind fun t376 => (if ((rd_T38 x27 x29).f0).toList = ([104, 111, 115, 116] : List UInt8) then ((head_Host.f k ((rd_T38 x27 x29).f1)).bind fun bt377 => (if t376 = true then (if bt377.2 = true then (head_Write.l0 k (bt377.1.toList == x369003.toList) (wrap64 (x5 + 1)) x27 x28 (wrap64 (x29 + 1)) x369000 x369001 x369002 x369003 x369004) else (head_Write.l0 k false (wrap64 (x5 + 1)) x27 x28 (wrap64 (x29 + 1)) x369000 x369001 x369002 x369003 x369004)) else (head_Write.l0 k false (wrap64 (x5 + 1)) x27 x28 (wrap64 (x29 + 1)) x369000 x369001 x369002 x369003 x369004))) else (head_Write.l0 k t376 x5 x27 x28 (wrap64 (x29 + 1)) x369000 x369001 x369002 x369003 x369004))) else (if ((rd_T38 x27 x29).f0).toList = ([104, 111, 115, 116] : List UInt8) then ((head_Host.f k ((rd_T38 x27 x29).f1)).bind fun bt379 => (head_Write.l0 k false (wrap64 (x5 + 1)) x27 x28 (wrap64 (x29 + 1)) x369000 x369001 x369002 x369003 x369004)) else (head_Write.l0 k false x5 x27 x28 (wrap64 (x29 + 1)) x369000 x369001 x369002 x369003 x369004)))) else (if ((rd_T38 x27 x29).f0).toList = ([104, 111, 115, 116] : List UInt8) then ((head_Host.f k ((rd_T38 x27 x29).f1)).bind fun bt381 => (head_Write.l0 k false (wrap64 (x5 + 1)) x27 x28 (wrap64 (x29 + 1)) x369000 x369001 x369002 x369003 x369004)) else (head_Write.l0 k false x5 x27 x28 (wrap64 (x29 + 1)) x369000 x369001 x369002 x369003 x369004)))) else (if ((rd_T38 x27 x29).f0).toList = ([104, 111, 115, 116] : List UInt8) then ((head_Host.f k ((rd_T38 x27 x29).f1)).bind fun bt383 => (head_Write.l0 k false (wrap64 (x5 + 1)) x27 x28 (wrap64 (x29 + 1)) x369000 x369001 x369002 x369003 x369004)) else (head_Write.l0 k false x5 x27 x28 (wrap64 (x29 + 1)) x369000 x369001 x369002 x369003 x369004))) else (none)) else (none)) else (if x4 = true then (head_Write.j2 k (x5 != 1) x369000 x369001 x369002 x369003 x369004) else (head_Write.j2 k true x369000 x369001 x369002 x369003 x369004))
def head_Write.j2 : Nat → Bool → ByteArray → ByteArray → ByteArray → ByteArray → List (S38) → Option (List Int × Int)
 | 0, _, _, _, _, _, _ => none
 | k + 1, x79, x369000, x369001, x369002, x369003, x369004 => if x79 = true then (some (([] : List Int), 4)) else (if x369000.size + 1 ≤ 9223372036854775807 then (if (x369000 ++ (⟨#[32]⟩ : ByteArray)).size + x369001.size ≤ 9223372036854775807 then (if ((x369000 ++ (⟨#[32]⟩ : ByteArray)) ++ x369001).size ≤ 9223372036854775807 then ((some (bytesOf ((x369000 ++ (⟨#[32]⟩ : ByteArray)) ++ x369001) : List Int)).bind fun y385 => (if x369002.toList = ([] : List UInt8) then (head_Write.j3 k y385 x369000 x369001 x369002 x369003 x369004) else (if 1 + x369002.size ≤ 9223372036854775807 then (if y385.length + ((⟨#[63]⟩ : ByteArray) ++ x369002).size < 140737488355328 then (head_Write.j3 k (y385 ++ bytesOf ((⟨#[63]⟩ : ByteArray) ++ x369002)) x369000 x369001 x369002 x369003 x369004) else (none)) else (none)))) else (none)) else (none)) else (none))
def head_Write.j3 : Nat → List Int → ByteArray → ByteArray → ByteArray → ByteArray → List (S38) → Option (List Int × Int)
 | 0, _, _, _, _, _, _ => none
 | k + 1, x10, x369000, x369001, x369002, x369003, x369004 => if x10.length + 11 < 140737488355328 then (head_Write.l1 k (x10 ++ bytesOf (⟨#[32, 72, 84, 84, 80, 47, 49, 46, 49, 13, 10]⟩ : ByteArray)) x369004 (x369004.length : Int) 0 x369000 x369001 x369002 x369003 x369004) else (none)
def head_Write.l1 : Nat → List Int → List (S38) → Int → Int → ByteArray → ByteArray → ByteArray → ByteArray → List (S38) → Option (List Int × Int)
 | 0, _, _, _, _, _, _, _, _, _ => none
 | k + 1, x10, x98, x99, x100, x369000, x369001, x369002, x369003, x369004 => if x100 < x99 then (if 0 ≤ x100 then (if x100 < (x98.length : Int) then (if ((rd_T38 x98 x100).f0).size + 2 ≤ 9223372036854775807 then (if (((rd_T38 x98 x100).f0) ++ (⟨#[58, 32]⟩ : ByteArray)).size + ((rd_T38 x98 x100).f1).size ≤ 9223372036854775807 then (if ((((rd_T38 x98 x100).f0) ++ (⟨#[58, 32]⟩ : ByteArray)) ++ ((rd_T38 x98 x100).f1)).size + 2 ≤ 9223372036854775807 then (if x10.length + (((((rd_T38 x98 x100).f0) ++ (⟨#[58, 32]⟩ : ByteArray)) ++ ((rd_T38 x98 x100).f1)) ++ (⟨#[13, 10]⟩ : ByteArray)).size < 140737488355328 then (head_Write.l1 k (x10 ++ bytesOf (((((rd_T38 x98 x100).f0) ++ (⟨#[58, 32]⟩ : ByteArray)) ++ ((rd_T38 x98 x100).f1)) ++ (⟨#[13, 10]⟩ : ByteArray))) x98 x99 (wrap64 (x100 + 1)) x369000 x369001 x369002 x369003 x369004) else (none)) else (none)) else (none)) else (none)) else (none)) else (none)) else (if x10.length + 2 < 140737488355328 then ((some (x10 ++ bytesOf (⟨#[13, 10]⟩ : ByteArray) : List Int)).bind fun y399 => (if (x369004.length : Int) > 32 then (some (([] : List Int), 6)) else (if (y399.length : Int) > 2048 then (some (([] : List Int), 6)) else (some (y399, 0))))) else (none))
end
def head_Write.f (k : Nat) (a0_0 : ByteArray) (a0_1 : ByteArray) (a0_2 : ByteArray) (a0_3 : ByteArray) (l0_4 : List (S38)) : Option (List Int × Int) := (head_token.f k a0_0).bind fun t369 => (if t369 = true then ((head_path.f k a0_1).bind fun t370 => (if t370 = true then ((head_such.f k a0_2 true).bind fun t371 => (head_Write.j0 k t371 a0_0 a0_1 a0_2 a0_3 l0_4)) else (head_Write.j0 k false a0_0 a0_1 a0_2 a0_3 l0_4))) else (head_Write.j0 k false a0_0 a0_1 a0_2 a0_3 l0_4))
theorem head_Write.mono_l : ∀ k, (∀ y0 y1 y2 y3 y4 y5, LeO (head_Write.j0 k y0 y1 y2 y3 y4 y5) (head_Write.j0 (k + 1) y0 y1 y2 y3 y4 y5)) ∧ (∀ y0 y1 y2 y3 y4 y5 y6 y7 y8 y9, LeO (head_Write.l0 k y0 y1 y2 y3 y4 y5 y6 y7 y8 y9) (head_Write.l0 (k + 1) y0 y1 y2 y3 y4 y5 y6 y7 y8 y9)) ∧ (∀ y0 y1 y2 y3 y4 y5, LeO (head_Write.j2 k y0 y1 y2 y3 y4 y5) (head_Write.j2 (k + 1) y0 y1 y2 y3 y4 y5)) ∧ (∀ y0 y1 y2 y3 y4 y5, LeO (head_Write.j3 k y0 y1 y2 y3 y4 y5) (head_Write.j3 (k + 1) y0 y1 y2 y3 y4 y5)) ∧ (∀ y0 y1 y2 y3 y4 y5 y6 y7 y8, LeO (head_Write.l1 k y0 y1 y2 y3 y4 y5 y6 y7 y8) (head_Write.l1 (k + 1) y0 y1 y2 y3 y4 y5 y6 y7 y8))
 | 0 => ⟨fun _ _ _ _ _ _ r h => by simp [head_Write.j0] at h, fun _ _ _ _ _ _ _ _ _ _ r h => by simp [head_Write.l0] at h, fun _ _ _ _ _ _ r h => by simp [head_Write.j2] at h, fun _ _ _ _ _ _ r h => by simp [head_Write.j3] at h, fun _ _ _ _ _ _ _ _ _ r h => by simp [head_Write.l1] at h⟩
 | k + 1 => by
  obtain ⟨ih0, ih1, ih2, ih3, ih4⟩ := head_Write.mono_l k
  refine ⟨?_, ?_, ?_, ?_, ?_⟩
  ·intro y0 y1 y2 y3 y4 y5
   unfold head_Write.j0
   repeat' first
   | (with_reducible exact ih0 _ _ _ _ _ _)
   | (with_reducible exact ih1 _ _ _ _ _ _ _ _ _ _)
   | (with_reducible exact ih2 _ _ _ _ _ _)
   | (with_reducible exact ih3 _ _ _ _ _ _)
   | (with_reducible exact ih4 _ _ _ _ _ _ _ _ _)
   | (with_reducible exact head_Host.mono _ _)
   | (with_reducible exact head_path.mono _ _)
   | (with_reducible exact head_such.mono _ _ _)
   | (with_reducible exact head_token.mono _ _)
   | (with_reducible exact head_value.mono _ _)
   | (with_reducible exact LeO.refl _)
   | (with_reducible exact LeO.none _)
   | (with_reducible refine LeO.ite ?_ ?_)
   | (with_reducible refine LeO.bind ?_ (fun _ => ?_))
   | exact ih0 _ _ _ _ _ _
   | exact ih1 _ _ _ _ _ _ _ _ _ _
   | exact ih2 _ _ _ _ _ _
   | exact ih3 _ _ _ _ _ _
   | exact ih4 _ _ _ _ _ _ _ _ _
   | exact head_Host.mono _ _
   | exact head_path.mono _ _
   | exact head_such.mono _ _ _
   | exact head_token.mono _ _
   | exact head_value.mono _ _
   | exact LeO.none _
   | refine LeO.ite ?_ ?_
   | refine LeO.bind ?_ (fun _ => ?_)
  ·intro y0 y1 y2 y3 y4 y5 y6 y7 y8 y9
   unfold head_Write.l0
   repeat' first
   | (with_reducible exact ih0 _ _ _ _ _ _)
   | (with_reducible exact ih1 _ _ _ _ _ _ _ _ _ _)
   | (with_reducible exact ih2 _ _ _ _ _ _)
   | (with_reducible exact ih3 _ _ _ _ _ _)
   | (with_reducible exact ih4 _ _ _ _ _ _ _ _ _)
   | (with_reducible exact head_Host.mono _ _)
   | (with_reducible exact head_path.mono _ _)
   | (with_reducible exact head_such.mono _ _ _)
   | (with_reducible exact head_token.mono _ _)
   | (with_reducible exact head_value.mono _ _)
   | (with_reducible exact LeO.refl _)
   | (with_reducible exact LeO.none _)
   | (with_reducible refine LeO.ite ?_ ?_)
   | (with_reducible refine LeO.bind ?_ (fun _ => ?_))
   | exact ih0 _ _ _ _ _ _
   | exact ih1 _ _ _ _ _ _ _ _ _ _
   | exact ih2 _ _ _ _ _ _
   | exact ih3 _ _ _ _ _ _
   | exact ih4 _ _ _ _ _ _ _ _ _
   | exact head_Host.mono _ _
   | exact head_path.mono _ _
   | exact head_such.mono _ _ _
   | exact head_token.mono _ _
   | exact head_value.mono _ _
   | exact LeO.none _
   | refine LeO.ite ?_ ?_
   | refine LeO.bind ?_ (fun _ => ?_)
  ·intro y0 y1 y2 y3 y4 y5
   unfold head_Write.j2
   repeat' first
   | (with_reducible exact ih0 _ _ _ _ _ _)
   | (with_reducible exact ih1 _ _ _ _ _ _ _ _ _ _)
   | (with_reducible exact ih2 _ _ _ _ _ _)
   | (with_reducible exact ih3 _ _ _ _ _ _)
   | (with_reducible exact ih4 _ _ _ _ _ _ _ _ _)
   | (with_reducible exact head_Host.mono _ _)
   | (with_reducible exact head_path.mono _ _)
   | (with_reducible exact head_such.mono _ _ _)
   | (with_reducible exact head_token.mono _ _)
   | (with_reducible exact head_value.mono _ _)
   | (with_reducible exact LeO.refl _)
   | (with_reducible exact LeO.none _)
   | (with_reducible refine LeO.ite ?_ ?_)
   | (with_reducible refine LeO.bind ?_ (fun _ => ?_))
   | exact ih0 _ _ _ _ _ _
   | exact ih1 _ _ _ _ _ _ _ _ _ _
   | exact ih2 _ _ _ _ _ _
   | exact ih3 _ _ _ _ _ _
   | exact ih4 _ _ _ _ _ _ _ _ _
   | exact head_Host.mono _ _
   | exact head_path.mono _ _
   | exact head_such.mono _ _ _
   | exact head_token.mono _ _
   | exact head_value.mono _ _
   | exact LeO.none _
   | refine LeO.ite ?_ ?_
   | refine LeO.bind ?_ (fun _ => ?_)
  ·intro y0 y1 y2 y3 y4 y5
   unfold head_Write.j3
   repeat' first
   | (with_reducible exact ih0 _ _ _ _ _ _)
   | (with_reducible exact ih1 _ _ _ _ _ _ _ _ _ _)
   | (with_reducible exact ih2 _ _ _ _ _ _)
   | (with_reducible exact ih3 _ _ _ _ _ _)
   | (with_reducible exact ih4 _ _ _ _ _ _ _ _ _)
   | (with_reducible exact head_Host.mono _ _)
   | (with_reducible exact head_path.mono _ _)
   | (with_reducible exact head_such.mono _ _ _)
   | (with_reducible exact head_token.mono _ _)
   | (with_reducible exact head_value.mono _ _)
   | (with_reducible exact LeO.refl _)
   | (with_reducible exact LeO.none _)
   | (with_reducible refine LeO.ite ?_ ?_)
   | (with_reducible refine LeO.bind ?_ (fun _ => ?_))
   | exact ih0 _ _ _ _ _ _
   | exact ih1 _ _ _ _ _ _ _ _ _ _
   | exact ih2 _ _ _ _ _ _
   | exact ih3 _ _ _ _ _ _
   | exact ih4 _ _ _ _ _ _ _ _ _
   | exact head_Host.mono _ _
   | exact head_path.mono _ _
   | exact head_such.mono _ _ _
   | exact head_token.mono _ _
   | exact head_value.mono _ _
   | exact LeO.none _
   | refine LeO.ite ?_ ?_
   | refine LeO.bind ?_ (fun _ => ?_)
  ·intro y0 y1 y2 y3 y4 y5 y6 y7 y8
   unfold head_Write.l1
   repeat' first
   | (with_reducible exact ih0 _ _ _ _ _ _)
   | (with_reducible exact ih1 _ _ _ _ _ _ _ _ _ _)
   | (with_reducible exact ih2 _ _ _ _ _ _)
   | (with_reducible exact ih3 _ _ _ _ _ _)
   | (with_reducible exact ih4 _ _ _ _ _ _ _ _ _)
   | (with_reducible exact head_Host.mono _ _)
   | (with_reducible exact head_path.mono _ _)
   | (with_reducible exact head_such.mono _ _ _)
   | (with_reducible exact head_token.mono _ _)
   | (with_reducible exact head_value.mono _ _)
   | (with_reducible exact LeO.refl _)
   | (with_reducible exact LeO.none _)
   | (with_reducible refine LeO.ite ?_ ?_)
   | (with_reducible refine LeO.bind ?_ (fun _ => ?_))
   | exact ih0 _ _ _ _ _ _
   | exact ih1 _ _ _ _ _ _ _ _ _ _
   | exact ih2 _ _ _ _ _ _
   | exact ih3 _ _ _ _ _ _
   | exact ih4 _ _ _ _ _ _ _ _ _
   | exact head_Host.mono _ _
   | exact head_path.mono _ _
   | exact head_such.mono _ _ _
   | exact head_token.mono _ _
   | exact head_value.mono _ _
   | exact LeO.none _
   | refine LeO.ite ?_ ?_
   | refine LeO.bind ?_ (fun _ => ?_)
theorem head_Write.mono : ∀ a0 a1 a2 a3 a4 k, LeO (head_Write.f k a0 a1 a2 a3 a4) (head_Write.f (k + 1) a0 a1 a2 a3 a4) := by
 intro a0 a1 a2 a3 a4 k
 obtain ⟨ih0, ih1, ih2, ih3, ih4⟩ := head_Write.mono_l k
 unfold head_Write.f
 repeat' first
   | (with_reducible exact ih0 _ _ _ _ _ _)
   | (with_reducible exact ih1 _ _ _ _ _ _ _ _ _ _)
   | (with_reducible exact ih2 _ _ _ _ _ _)
   | (with_reducible exact ih3 _ _ _ _ _ _)
   | (with_reducible exact ih4 _ _ _ _ _ _ _ _ _)
   | (with_reducible exact head_Host.mono _ _)
   | (with_reducible exact head_path.mono _ _)
   | (with_reducible exact head_such.mono _ _ _)
   | (with_reducible exact head_token.mono _ _)
   | (with_reducible exact head_value.mono _ _)
   | (with_reducible exact LeO.refl _)
   | (with_reducible exact LeO.none _)
   | (with_reducible refine LeO.ite ?_ ?_)
   | (with_reducible refine LeO.bind ?_ (fun _ => ?_))
   | exact ih0 _ _ _ _ _ _
   | exact ih1 _ _ _ _ _ _ _ _ _ _
   | exact ih2 _ _ _ _ _ _
   | exact ih3 _ _ _ _ _ _
   | exact ih4 _ _ _ _ _ _ _ _ _
   | exact head_Host.mono _ _
   | exact head_path.mono _ _
   | exact head_such.mono _ _ _
   | exact head_token.mono _ _
   | exact head_value.mono _ _
   | exact LeO.none _
   | refine LeO.ite ?_ ?_
   | refine LeO.bind ?_ (fun _ => ?_)
def head_Write.T6 : Bool × List (List Nat × List Nat) := (true, [([], []), ([0], [0]), ([1], [1]), ([2, 1], [1, 2]), ([3, 1, 1], [1, 3]), ([1, 4], [1, 4]), ([5, 4], [5]), ([6], [6]), ([7, 6], [6, 7]), ([8, 6, 6], [6, 8]), ([6], [6]), ([10, 6], [6, 10]), ([9, 11, 6], [6, 9, 11]), ([6, 12], [6, 12]), ([13, 9], [13]), ([14], [14]), ([15, 14], [14, 15]), ([16, 14, 14], [14, 16]), ([14, 17], [14, 17]), ([18, 17, 0, 1, 2, 3, 4, 5, 6, 7, 8, 9, 10, 11, 12, 13, 14, 15, 16, 17, 18], [0, 18])])
def head_Write.B6 : List Nat := [0, 1, 3, 7, 15, 31, 63, 127, 255, 511, 127, 1151, 4095, 8191, 16383, 32767, 65535, 131071, 262143, 524287]
theorem head_Write.tab6 : rtab .any (opsOf Tryd.f21 6) = head_Write.T6 := by kernel_rfl
theorem head_Write.bits6 : waitsOk head_Write.T6.2 head_Write.B6 = true := by kernel_rfl
abbrev head_Write.a0 : Array Bool := #[false, false, false, false, false, false, false, false, false, false, false, false, false, false, false, false, false, false, false, false]
abbrev head_Write.a1 : Array Bool := #[true, false, false, false, false, false, false, false, false, false, false, false, false, false, false, false, false, false, false, false]
abbrev head_Write.a2 : Array Bool := #[true, true, false, false, false, false, false, false, false, false, false, false, false, false, false, false, false, false, false, false]
abbrev head_Write.a3 : Array Bool := #[true, true, true, false, false, false, false, false, false, false, false, false, false, false, false, false, false, false, false, false]
abbrev head_Write.a4 : Array Bool := #[true, true, true, true, false, false, false, false, false, false, false, false, false, false, false, false, false, false, false, false]
abbrev head_Write.a5 : Array Bool := #[true, true, true, true, true, false, false, false, false, false, false, false, false, false, false, false, false, false, false, false]
abbrev head_Write.a6 : Array Bool := #[true, true, true, true, true, true, false, false, false, false, false, false, false, false, false, false, false, false, false, false]
abbrev head_Write.a7 : Array Bool := #[true, true, true, true, true, true, true, false, false, false, false, false, false, false, false, false, false, false, false, false]
abbrev head_Write.a8 : Array Bool := #[true, true, true, true, true, true, true, true, false, false, false, false, false, false, false, false, false, false, false, false]
abbrev head_Write.a9 : Array Bool := #[true, true, true, true, true, true, true, true, false, false, true, false, false, false, false, false, false, false, false, false]
abbrev head_Write.a10 : Array Bool := #[true, true, true, true, true, true, true, true, true, false, true, false, false, false, false, false, false, false, false, false]
abbrev head_Write.a11 : Array Bool := #[true, true, true, true, true, true, true, true, true, false, true, true, false, false, false, false, false, false, false, false]
abbrev head_Write.a12 : Array Bool := #[true, true, true, true, true, true, true, true, true, true, true, true, false, false, false, false, false, false, false, false]
abbrev head_Write.a13 : Array Bool := #[true, true, true, true, true, true, true, true, true, true, true, true, true, false, false, false, false, false, false, false]
abbrev head_Write.a14 : Array Bool := #[true, true, true, true, true, true, true, true, true, true, true, true, true, true, false, false, false, false, false, false]
abbrev head_Write.a15 : Array Bool := #[true, true, true, true, true, true, true, true, true, true, true, true, true, true, true, false, false, false, false, false]
abbrev head_Write.a16 : Array Bool := #[true, true, true, true, true, true, true, true, true, true, true, true, true, true, true, true, false, false, false, false]
abbrev head_Write.a17 : Array Bool := #[true, true, true, true, true, true, true, true, true, true, true, true, true, true, true, true, true, false, false, false]
abbrev head_Write.a18 : Array Bool := #[true, true, true, true, true, true, true, true, true, true, true, true, true, true, true, true, true, true, false, false]
abbrev head_Write.a19 : Array Bool := #[true, true, true, true, true, true, true, true, true, true, true, true, true, true, true, true, true, true, true, false]
abbrev head_Write.a20 : Array Bool := #[true, true, true, true, true, true, true, true, true, true, true, true, true, true, true, true, true, true, true, true]
abbrev head_Write.a21 : Array Bool := #[true, true, true, true, true, true, true, true, true, false, false, false, false, false, false, false, false, false, false, false]
abbrev head_Write.a22 : Array Bool := #[true, true, true, true, true, true, true, true, true, true, false, false, false, false, false, false, false, false, false, false]
abbrev head_Write.a23 : Array Bool := #[true, true, true, true, true, true, true, true, true, true, true, false, false, false, false, false, false, false, false, false]
set_option maxHeartbeats 8000000 in
set_option maxRecDepth 100000 in
theorem head_Write.calls0 (k : Nat) (a0_0 : ByteArray) (a0_1 : ByteArray) (a0_2 : ByteArray) (a0_3 : ByteArray) (A0_4 : Option Addr) (c0_4 : Nat) (l0_4 : List (S38)) (r1 : List Int) (r2 : Int) (w : World) (hml : ML w) (hr0_4 : Kd.C k38 w A0_4 l0_4.length l0_4) (hc0_4 : l0_4.length ≤ c0_4) (h : head_Write.f k a0_0 a0_1 a0_2 a0_3 l0_4 = some (r1, r2)) :
  Calls Tryd.prog 21 #[.agg #[.string a0_0, .string a0_1, .string a0_2, .string a0_3, .slice A0_4 l0_4.length c0_4]] w fun e w' => ∃ v0_ : Value, e = .returned (.tuple #[v0_, .int .i64 r2]) ∧ Yd.R (Kd.int .u8) 5 w' w.heap.size (fun _ => True) v0_ r1 ∧ Below w.heap.size w w' := by
 have HML := Aside0.mk hml
 clear hml
 have kcs9 := fun (w_ : World) (s_ : ByteArray) => Lib.run_convert_string_bytes (P := Tryd.prog) w_ 9 22 5 s_ Tryd.underlying9 Tryd.underlying22 Tryd.underlying5
 have hu25 := Tryd.underlying25
 have hu38 := Tryd.underlying38
 have HR0_4 := Aside0.mk hr0_4
 have HC0_4 := Aside0.mk hc0_4
 clear hr0_4 hc0_4
 have HB := Aside0.mk (Below.refl w.heap.size w)
 have H : ((head_token.f k a0_0).bind fun t369 => (if t369 = true then ((head_path.f k a0_1).bind fun t370 => (if t370 = true then ((head_such.f k a0_2 true).bind fun t371 => (head_Write.j0 k t371 a0_0 a0_1 a0_2 a0_3 l0_4)) else (head_Write.j0 k false a0_0 a0_1 a0_2 a0_3 l0_4))) else (head_Write.j0 k false a0_0 a0_1 a0_2 a0_3 l0_4))) = some (r1, r2) := h
 clear h
 have HC2 := Aside0.mk H
 clear H
 go_enter Tryd.func21, Tryd.ntmps21
 go_upto_region 1 with (first | ((with_reducible refine gate_dst (N := 1) rfl ?_); (try (refine gate_guard (by rfl) ?_; dsimp only)); refine box_event ?hg (N := 1) ?hd (cs := #[.string a0_0, .string a0_1, .string a0_2, .string a0_3, .slice A0_4 l0_4.length c0_4]) (t := 25) ?hr ?_; (case hd => rfl); (case hg => rfl); (case hr => first | (go_simp; done) | (go_simp; rfl)); intro gb368 hg w3 hbox hb; have n0_ := Aside0.mk (below_step (by repeat (first | (with_reducible first | exact HB.out | apply below_alloc | apply pw_below_drewN | apply below_drew1) | exact HB.out)) hb); have n1_ := Aside0.mk (hbox); have n2_ := Aside0.mk ((by rw [hg]; exact (below_size (by repeat (first | (with_reducible first | exact HB.out | apply below_alloc | apply pw_below_drewN | apply below_drew1) | exact HB.out))) : w.heap.size ≤ gb368)); have n3_ := Aside0.mk ((by rw [hg]; exact (below_size (by repeat (first | (with_reducible first | exact HB.out | apply below_alloc | apply pw_below_drewN | apply below_drew1) | exact HB.out))) : w.heap.size ≤ gb368)); clear HB; have HB := n0_; have BK368 := n1_; have GW368 := n2_; have GE368 := n3_; clear n0_ n1_ n2_ n3_; clear hb hbox hg))
 (try simp only [Act.put, List.setIfInBounds_toArray, List.set_cons_zero, List.set_cons_succ])
 go_cut [4] (fun v4 wc => ∃ (kq : Nat) (x4_1 : Bool), v4 = .bool x4_1 ∧ Aside0 (head_Write.j0 kq x4_1 a0_0 a0_1 a0_2 a0_3 l0_4 = some (r1, r2)) ∧ Aside0 (kq ≤ k) ∧ Aside0 (wc.heap[gb368]? = some (.cells #[.string a0_0, .string a0_1, .string a0_2, .string a0_3, (.slice A0_4 l0_4.length c0_4)] 25 (0, 0))) ∧ Aside0 (Below w.heap.size w wc))
 case first =>
  have H := HC2.out
  clear HC2
  replace H := Option.bind_eq_some_iff.mp H
  obtain ⟨t369, A40, H⟩ := H
  replace H : (if t369 = true then ((head_path.f k a0_1).bind fun t370 => (if t370 = true then ((head_such.f k a0_2 true).bind fun t371 => (head_Write.j0 k t371 a0_0 a0_1 a0_2 a0_3 l0_4)) else (head_Write.j0 k false a0_0 a0_1 a0_2 a0_3 l0_4))) else (head_Write.j0 k false a0_0 a0_1 a0_2 a0_3 l0_4)) = some (r1, r2) := H
  have A4 := Aside0.mk A40
  clear A40
  by_cases c5 : t369 = true
  ·subst c5
   have H1 : ((head_path.f k a0_1).bind fun t370 => (if t370 = true then ((head_such.f k a0_2 true).bind fun t371 => (head_Write.j0 k t371 a0_0 a0_1 a0_2 a0_3 l0_4)) else (head_Write.j0 k false a0_0 a0_1 a0_2 a0_3 l0_4))) = some (r1, r2) := by rw [if_pos rfl] at H; exact H
   clear H
   have H := H1
   clear H1
   replace H := Option.bind_eq_some_iff.mp H
   obtain ⟨t370, A60, H⟩ := H
   replace H : (if t370 = true then ((head_such.f k a0_2 true).bind fun t371 => (head_Write.j0 k t371 a0_0 a0_1 a0_2 a0_3 l0_4)) else (head_Write.j0 k false a0_0 a0_1 a0_2 a0_3 l0_4)) = some (r1, r2) := H
   have A6 := Aside0.mk A60
   clear A60
   by_cases c7 : t370 = true
   ·subst c7
    have H1 : ((head_such.f k a0_2 true).bind fun t371 => (head_Write.j0 k t371 a0_0 a0_1 a0_2 a0_3 l0_4)) = some (r1, r2) := by rw [if_pos rfl] at H; exact H
    clear H
    have H := H1
    clear H1
    replace H := Option.bind_eq_some_iff.mp H
    obtain ⟨t371, A80, H⟩ := H
    replace H : (head_Write.j0 k t371 a0_0 a0_1 a0_2 a0_3 l0_4) = some (r1, r2) := H
    have A8 := Aside0.mk A80
    clear A80
    have H' := Aside0.mk H
    clear H
    have hcz9_0 : w3.cell? ⟨gb368, 0, none⟩ = some (.string a0_0) := (blk_cell BK368.out 0).trans rfl
    have hcz9_1 : w3.cell? ⟨gb368, 1, none⟩ = some (.string a0_1) := (blk_cell BK368.out 1).trans rfl
    have hcz9_2 : w3.cell? ⟨gb368, 2, none⟩ = some (.string a0_2) := (blk_cell BK368.out 2).trans rfl
    have hcz9_3 : w3.cell? ⟨gb368, 3, none⟩ = some (.string a0_3) := (blk_cell BK368.out 3).trans rfl
    have hcz9_4 : w3.cell? ⟨gb368, 4, none⟩ = some (.slice A0_4 l0_4.length c0_4) := (blk_cell BK368.out 4).trans rfl
    have hfz9_0 := blk_frozen BK368.out 0
    have hfz9_1 := blk_frozen BK368.out 1
    have hfz9_2 := blk_frozen BK368.out 2
    have hfz9_3 := blk_frozen BK368.out 3
    have hfz9_4 := blk_frozen BK368.out 4
    go_wp2_with (first | ((with_reducible refine gate_callee (f := 38) rfl ?_); refine goesL_ (some 15) rfl rfl Tryd.func38 (by kernel_rfl) rfl #[.string a0_0] rfl (by (try simp only [List.map_toArray, List.map_cons, List.map_nil]); first | done | rfl | (simp only [List.length_drop, List.length_take]; rfl)) ?_; (with_reducible refine (head_token.calls k a0_0 true _ A4.out).mono ?_); rintro e w' ⟨rfl, ⟨nd, rfl⟩⟩; refine ⟨_, rfl, ?_⟩) | (go_at_call 51; (with_reducible refine (head_path.calls k a0_1 true _ A6.out).mono ?_); rintro e w' ⟨rfl, ⟨nd, rfl⟩⟩) | (go_at_call 52; (with_reducible refine (head_such.calls k a0_2 true t371 _ A8.out).mono ?_); rintro e w' ⟨rfl, ⟨nd, rfl⟩⟩))
    go_meet
    case rel => exact ⟨_, (t371), (by first | rfl | (simp; done) | (simp [*]; done)), H', ⟨by first | omega | exact Nat.le_refl _⟩, ⟨by (with_reducible repeat (first | refine blk_drewN ?_ _ | refine blk_drew ?_ | refine blk_alloc ?_ _)); exact BK368.out⟩, ⟨by repeat (first | (with_reducible first | exact HB.out | apply below_alloc | apply pw_below_drewN | apply below_drew1 | refine below_set ?_ GE368.out) | exact HB.out)⟩⟩
   ·replace c7 := Bool.eq_false_iff.mpr c7
    subst c7
    have H1 : (head_Write.j0 k false a0_0 a0_1 a0_2 a0_3 l0_4) = some (r1, r2) := by rw [if_neg (show ¬ (false = true) by decide)] at H; exact H
    clear H
    have H := H1
    clear H1
    have H' := Aside0.mk H
    clear H
    have hcz10_0 : w3.cell? ⟨gb368, 0, none⟩ = some (.string a0_0) := (blk_cell BK368.out 0).trans rfl
    have hcz10_1 : w3.cell? ⟨gb368, 1, none⟩ = some (.string a0_1) := (blk_cell BK368.out 1).trans rfl
    have hcz10_2 : w3.cell? ⟨gb368, 2, none⟩ = some (.string a0_2) := (blk_cell BK368.out 2).trans rfl
    have hcz10_3 : w3.cell? ⟨gb368, 3, none⟩ = some (.string a0_3) := (blk_cell BK368.out 3).trans rfl
    have hcz10_4 : w3.cell? ⟨gb368, 4, none⟩ = some (.slice A0_4 l0_4.length c0_4) := (blk_cell BK368.out 4).trans rfl
    have hfz10_0 := blk_frozen BK368.out 0
    have hfz10_1 := blk_frozen BK368.out 1
    have hfz10_2 := blk_frozen BK368.out 2
    have hfz10_3 := blk_frozen BK368.out 3
    have hfz10_4 := blk_frozen BK368.out 4
    go_wp2_with (first | ((with_reducible refine gate_callee (f := 38) rfl ?_); refine goesL_ (some 15) rfl rfl Tryd.func38 (by kernel_rfl) rfl #[.string a0_0] rfl (by (try simp only [List.map_toArray, List.map_cons, List.map_nil]); first | done | rfl | (simp only [List.length_drop, List.length_take]; rfl)) ?_; (with_reducible refine (head_token.calls k a0_0 true _ A4.out).mono ?_); rintro e w' ⟨rfl, ⟨nd, rfl⟩⟩; refine ⟨_, rfl, ?_⟩) | (go_at_call 51; (with_reducible refine (head_path.calls k a0_1 false _ A6.out).mono ?_); rintro e w' ⟨rfl, ⟨nd, rfl⟩⟩))
    go_meet
    case rel => exact ⟨_, (false), (by first | rfl | (simp; done) | (simp [*]; done)), H', ⟨by first | omega | exact Nat.le_refl _⟩, ⟨by (with_reducible repeat (first | refine blk_drewN ?_ _ | refine blk_drew ?_ | refine blk_alloc ?_ _)); exact BK368.out⟩, ⟨by repeat (first | (with_reducible first | exact HB.out | apply below_alloc | apply pw_below_drewN | apply below_drew1 | refine below_set ?_ GE368.out) | exact HB.out)⟩⟩
  ·replace c5 := Bool.eq_false_iff.mpr c5
   subst c5
   have H1 : (head_Write.j0 k false a0_0 a0_1 a0_2 a0_3 l0_4) = some (r1, r2) := by rw [if_neg (show ¬ (false = true) by decide)] at H; exact H
   clear H
   have H := H1
   clear H1
   have H' := Aside0.mk H
   clear H
   have hcz11_0 : w3.cell? ⟨gb368, 0, none⟩ = some (.string a0_0) := (blk_cell BK368.out 0).trans rfl
   have hcz11_1 : w3.cell? ⟨gb368, 1, none⟩ = some (.string a0_1) := (blk_cell BK368.out 1).trans rfl
   have hcz11_2 : w3.cell? ⟨gb368, 2, none⟩ = some (.string a0_2) := (blk_cell BK368.out 2).trans rfl
   have hcz11_3 : w3.cell? ⟨gb368, 3, none⟩ = some (.string a0_3) := (blk_cell BK368.out 3).trans rfl
   have hcz11_4 : w3.cell? ⟨gb368, 4, none⟩ = some (.slice A0_4 l0_4.length c0_4) := (blk_cell BK368.out 4).trans rfl
   have hfz11_0 := blk_frozen BK368.out 0
   have hfz11_1 := blk_frozen BK368.out 1
   have hfz11_2 := blk_frozen BK368.out 2
   have hfz11_3 := blk_frozen BK368.out 3
   have hfz11_4 := blk_frozen BK368.out 4
   go_wp2_with (first | ((with_reducible refine gate_callee (f := 38) rfl ?_); refine goesL_ (some 15) rfl rfl Tryd.func38 (by kernel_rfl) rfl #[.string a0_0] rfl (by (try simp only [List.map_toArray, List.map_cons, List.map_nil]); first | done | rfl | (simp only [List.length_drop, List.length_take]; rfl)) ?_; (with_reducible refine (head_token.calls k a0_0 false _ A4.out).mono ?_); rintro e w' ⟨rfl, ⟨nd, rfl⟩⟩; refine ⟨_, rfl, ?_⟩))
   go_meet
   case rel => exact ⟨_, (false), (by first | rfl | (simp; done) | (simp [*]; done)), H', ⟨by first | omega | exact Nat.le_refl _⟩, ⟨by (with_reducible repeat (first | refine blk_drewN ?_ _ | refine blk_drew ?_ | refine blk_alloc ?_ _)); exact BK368.out⟩, ⟨by repeat (first | (with_reducible first | exact HB.out | apply below_alloc | apply pw_below_drewN | apply below_drew1 | refine below_set ?_ GE368.out) | exact HB.out)⟩⟩
 case rest =>
  clear HC2
  obtain ⟨kq, x4_1, rfl, HA, HJ1, BK368, HB⟩ := hcut
  cases kq with
  | zero => exact absurd HA.out (by simp [head_Write.j0])
  | succ kj1 =>
   have H := HA.out
   clear HA
   simp only [head_Write.j0] at H
   have H' := Aside0.mk H
   clear H
   have hcz12_0 : wc.cell? ⟨gb368, 0, none⟩ = some (.string a0_0) := (blk_cell BK368.out 0).trans rfl
   have hcz12_1 : wc.cell? ⟨gb368, 1, none⟩ = some (.string a0_1) := (blk_cell BK368.out 1).trans rfl
   have hcz12_2 : wc.cell? ⟨gb368, 2, none⟩ = some (.string a0_2) := (blk_cell BK368.out 2).trans rfl
   have hcz12_3 : wc.cell? ⟨gb368, 3, none⟩ = some (.string a0_3) := (blk_cell BK368.out 3).trans rfl
   have hcz12_4 : wc.cell? ⟨gb368, 4, none⟩ = some (.slice A0_4 l0_4.length c0_4) := (blk_cell BK368.out 4).trans rfl
   have hfz12_0 := blk_frozen BK368.out 0
   have hfz12_1 := blk_frozen BK368.out 1
   have hfz12_2 := blk_frozen BK368.out 2
   have hfz12_3 := blk_frozen BK368.out 3
   have hfz12_4 := blk_frozen BK368.out 4
   go_wp2
   go_loopg [4, 5, 29] kj1 (fun kq v4 v5 v29 w' => ∃ (x4_2 : Bool) (x5_2 : Int) (x29_2 : Int), v4 = .bool x4_2 ∧ v5 = .int .i64 x5_2 ∧ v29 = .int .i64 x29_2 ∧ Aside0 (head_Write.l0 kq x4_2 x5_2 l0_4 (l0_4.length : Int) x29_2 a0_0 a0_1 a0_2 a0_3 l0_4 = some (r1, r2)) ∧ Aside0 (kq ≤ kj1) ∧ Aside0 (w'.heap[gb368]? = some (.cells #[.string a0_0, .string a0_1, .string a0_2, .string a0_3, (.slice A0_4 l0_4.length c0_4)] 25 (0, 0))) ∧ Aside0 (Below w.heap.size w w'))
   case atStart => exact ⟨(x4_1), (0), (0), (by first | rfl | (simp; done) | (simp [*]; done)), (by first | rfl | (simp; done) | (simp [*]; done)), (by first | rfl | (simp; done) | (simp [*]; done)), H', ⟨Nat.le_refl _⟩, ⟨by (with_reducible repeat (first | refine blk_drewN ?_ _ | refine blk_drew ?_ | refine blk_alloc ?_ _)); exact BK368.out⟩, ⟨by repeat (first | (with_reducible first | exact HB.out | apply below_alloc | apply pw_below_drewN | apply below_drew1 | refine below_set ?_ GE368.out) | exact HB.out)⟩⟩
   case round =>
    clear H'
    try clear hcz12_0
    try clear hcz12_1
    try clear hcz12_2
    try clear hcz12_3
    try clear hcz12_4
    try clear hfz12_0
    try clear hfz12_1
    try clear hfz12_2
    try clear hfz12_3
    try clear hfz12_4
    obtain ⟨x4_2, x5_2, x29_2, rfl, rfl, rfl, HA, HK2, BK368, HB⟩ := hrel
    cases gk with
    | zero => exact absurd HA.out (by simp [head_Write.l0])
    | succ k2 =>
     have H := HA.out
     clear HA
     simp only [head_Write.l0] at H
     by_cases c13 : x29_2 < (l0_4.length : Int)
     ·rw [if_pos c13] at H
      have c13b0 : decide (x29_2 < (l0_4.length : Int)) = true := decide_eq_true c13
      clear c13
      by_cases c14 : 0 ≤ x29_2
      ·rw [if_pos c14] at H
       have c14b0 : decide (0 ≤ x29_2) = true := decide_eq_true c14
       clear c14
       by_cases c15 : x29_2 < (l0_4.length : Int)
       ·rw [if_pos c15] at H
        have c15b0 : decide (x29_2 < (l0_4.length : Int)) = true := decide_eq_true c15
        clear c15
        by_cases c16 : x4_2 = true
        ·subst c16
         have H1 : ((head_token.f k2 ((rd_T38 l0_4 x29_2).f0)).bind fun t374 => (if t374 = true then ((head_lower.f ((rd_T38 l0_4 x29_2).f0)).bind fun t375 => (if t375.toList = ((rd_T38 l0_4 x29_2).f0).toList then ((head_value.f k2 ((rd_T38 l0_4 x29_2).f1)).bind fun t376 => (if ((rd_T38 l0_4 x29_2).f0).toList = ([104, 111, 115, 116] : List UInt8) then ((head_Host.f k2 ((rd_T38 l0_4 x29_2).f1)).bind fun bt377 => (if t376 = true then (if bt377.2 = true then (head_Write.l0 k2 (bt377.1.toList == a0_3.toList) (wrap64 (x5_2 + 1)) l0_4 (l0_4.length : Int) (wrap64 (x29_2 + 1)) a0_0 a0_1 a0_2 a0_3 l0_4) else (head_Write.l0 k2 false (wrap64 (x5_2 + 1)) l0_4 (l0_4.length : Int) (wrap64 (x29_2 + 1)) a0_0 a0_1 a0_2 a0_3 l0_4)) else (head_Write.l0 k2 false (wrap64 (x5_2 + 1)) l0_4 (l0_4.length : Int) (wrap64 (x29_2 + 1)) a0_0 a0_1 a0_2 a0_3 l0_4))) else (head_Write.l0 k2 t376 x5_2 l0_4 (l0_4.length : Int) (wrap64 (x29_2 + 1)) a0_0 a0_1 a0_2 a0_3 l0_4))) else (if ((rd_T38 l0_4 x29_2).f0).toList = ([104, 111, 115, 116] : List UInt8) then ((head_Host.f k2 ((rd_T38 l0_4 x29_2).f1)).bind fun bt379 => (head_Write.l0 k2 false (wrap64 (x5_2 + 1)) l0_4 (l0_4.length : Int) (wrap64 (x29_2 + 1)) a0_0 a0_1 a0_2 a0_3 l0_4)) else (head_Write.l0 k2 false x5_2 l0_4 (l0_4.length : Int) (wrap64 (x29_2 + 1)) a0_0 a0_1 a0_2 a0_3 l0_4)))) else (if ((rd_T38 l0_4 x29_2).f0).toList = ([104, 111, 115, 116] : List UInt8) then ((head_Host.f k2 ((rd_T38 l0_4 x29_2).f1)).bind fun bt381 => (head_Write.l0 k2 false (wrap64 (x5_2 + 1)) l0_4 (l0_4.length : Int) (wrap64 (x29_2 + 1)) a0_0 a0_1 a0_2 a0_3 l0_4)) else (head_Write.l0 k2 false x5_2 l0_4 (l0_4.length : Int) (wrap64 (x29_2 + 1)) a0_0 a0_1 a0_2 a0_3 l0_4)))) = some (r1, r2) := by rw [if_pos rfl] at H; exact H
         clear H
         have H := H1
         clear H1
         replace H := Option.bind_eq_some_iff.mp H
         obtain ⟨t374, A170, H⟩ := H
         replace H : (if t374 = true then ((head_lower.f ((rd_T38 l0_4 x29_2).f0)).bind fun t375 => (if t375.toList = ((rd_T38 l0_4 x29_2).f0).toList then ((head_value.f k2 ((rd_T38 l0_4 x29_2).f1)).bind fun t376 => (if ((rd_T38 l0_4 x29_2).f0).toList = ([104, 111, 115, 116] : List UInt8) then ((head_Host.f k2 ((rd_T38 l0_4 x29_2).f1)).bind fun bt377 => (if t376 = true then (if bt377.2 = true then (head_Write.l0 k2 (bt377.1.toList == a0_3.toList) (wrap64 (x5_2 + 1)) l0_4 (l0_4.length : Int) (wrap64 (x29_2 + 1)) a0_0 a0_1 a0_2 a0_3 l0_4) else (head_Write.l0 k2 false (wrap64 (x5_2 + 1)) l0_4 (l0_4.length : Int) (wrap64 (x29_2 + 1)) a0_0 a0_1 a0_2 a0_3 l0_4)) else (head_Write.l0 k2 false (wrap64 (x5_2 + 1)) l0_4 (l0_4.length : Int) (wrap64 (x29_2 + 1)) a0_0 a0_1 a0_2 a0_3 l0_4))) else (head_Write.l0 k2 t376 x5_2 l0_4 (l0_4.length : Int) (wrap64 (x29_2 + 1)) a0_0 a0_1 a0_2 a0_3 l0_4))) else (if ((rd_T38 l0_4 x29_2).f0).toList = ([104, 111, 115, 116] : List UInt8) then ((head_Host.f k2 ((rd_T38 l0_4 x29_2).f1)).bind fun bt379 => (head_Write.l0 k2 false (wrap64 (x5_2 + 1)) l0_4 (l0_4.length : Int) (wrap64 (x29_2 + 1)) a0_0 a0_1 a0_2 a0_3 l0_4)) else (head_Write.l0 k2 false x5_2 l0_4 (l0_4.length : Int) (wrap64 (x29_2 + 1)) a0_0 a0_1 a0_2 a0_3 l0_4)))) else (if ((rd_T38 l0_4 x29_2).f0).toList = ([104, 111, 115, 116] : List UInt8) then ((head_Host.f k2 ((rd_T38 l0_4 x29_2).f1)).bind fun bt381 => (head_Write.l0 k2 false (wrap64 (x5_2 + 1)) l0_4 (l0_4.length : Int) (wrap64 (x29_2 + 1)) a0_0 a0_1 a0_2 a0_3 l0_4)) else (head_Write.l0 k2 false x5_2 l0_4 (l0_4.length : Int) (wrap64 (x29_2 + 1)) a0_0 a0_1 a0_2 a0_3 l0_4))) = some (r1, r2) := H
         have A17 := Aside0.mk A170
         clear A170
         by_cases c18 : t374 = true
         ·subst c18
          have H1 : ((head_lower.f ((rd_T38 l0_4 x29_2).f0)).bind fun t375 => (if t375.toList = ((rd_T38 l0_4 x29_2).f0).toList then ((head_value.f k2 ((rd_T38 l0_4 x29_2).f1)).bind fun t376 => (if ((rd_T38 l0_4 x29_2).f0).toList = ([104, 111, 115, 116] : List UInt8) then ((head_Host.f k2 ((rd_T38 l0_4 x29_2).f1)).bind fun bt377 => (if t376 = true then (if bt377.2 = true then (head_Write.l0 k2 (bt377.1.toList == a0_3.toList) (wrap64 (x5_2 + 1)) l0_4 (l0_4.length : Int) (wrap64 (x29_2 + 1)) a0_0 a0_1 a0_2 a0_3 l0_4) else (head_Write.l0 k2 false (wrap64 (x5_2 + 1)) l0_4 (l0_4.length : Int) (wrap64 (x29_2 + 1)) a0_0 a0_1 a0_2 a0_3 l0_4)) else (head_Write.l0 k2 false (wrap64 (x5_2 + 1)) l0_4 (l0_4.length : Int) (wrap64 (x29_2 + 1)) a0_0 a0_1 a0_2 a0_3 l0_4))) else (head_Write.l0 k2 t376 x5_2 l0_4 (l0_4.length : Int) (wrap64 (x29_2 + 1)) a0_0 a0_1 a0_2 a0_3 l0_4))) else (if ((rd_T38 l0_4 x29_2).f0).toList = ([104, 111, 115, 116] : List UInt8) then ((head_Host.f k2 ((rd_T38 l0_4 x29_2).f1)).bind fun bt379 => (head_Write.l0 k2 false (wrap64 (x5_2 + 1)) l0_4 (l0_4.length : Int) (wrap64 (x29_2 + 1)) a0_0 a0_1 a0_2 a0_3 l0_4)) else (head_Write.l0 k2 false x5_2 l0_4 (l0_4.length : Int) (wrap64 (x29_2 + 1)) a0_0 a0_1 a0_2 a0_3 l0_4)))) = some (r1, r2) := by rw [if_pos rfl] at H; exact H
          clear H
          have H := H1
          clear H1
          replace H := Option.bind_eq_some_iff.mp H
          obtain ⟨t375, A190, H⟩ := H
          replace H : (if t375.toList = ((rd_T38 l0_4 x29_2).f0).toList then ((head_value.f k2 ((rd_T38 l0_4 x29_2).f1)).bind fun t376 => (if ((rd_T38 l0_4 x29_2).f0).toList = ([104, 111, 115, 116] : List UInt8) then ((head_Host.f k2 ((rd_T38 l0_4 x29_2).f1)).bind fun bt377 => (if t376 = true then (if bt377.2 = true then (head_Write.l0 k2 (bt377.1.toList == a0_3.toList) (wrap64 (x5_2 + 1)) l0_4 (l0_4.length : Int) (wrap64 (x29_2 + 1)) a0_0 a0_1 a0_2 a0_3 l0_4) else (head_Write.l0 k2 false (wrap64 (x5_2 + 1)) l0_4 (l0_4.length : Int) (wrap64 (x29_2 + 1)) a0_0 a0_1 a0_2 a0_3 l0_4)) else (head_Write.l0 k2 false (wrap64 (x5_2 + 1)) l0_4 (l0_4.length : Int) (wrap64 (x29_2 + 1)) a0_0 a0_1 a0_2 a0_3 l0_4))) else (head_Write.l0 k2 t376 x5_2 l0_4 (l0_4.length : Int) (wrap64 (x29_2 + 1)) a0_0 a0_1 a0_2 a0_3 l0_4))) else (if ((rd_T38 l0_4 x29_2).f0).toList = ([104, 111, 115, 116] : List UInt8) then ((head_Host.f k2 ((rd_T38 l0_4 x29_2).f1)).bind fun bt379 => (head_Write.l0 k2 false (wrap64 (x5_2 + 1)) l0_4 (l0_4.length : Int) (wrap64 (x29_2 + 1)) a0_0 a0_1 a0_2 a0_3 l0_4)) else (head_Write.l0 k2 false x5_2 l0_4 (l0_4.length : Int) (wrap64 (x29_2 + 1)) a0_0 a0_1 a0_2 a0_3 l0_4))) = some (r1, r2) := H
          have A19 := Aside0.mk A190
          clear A190
          by_cases c20 : t375.toList = ((rd_T38 l0_4 x29_2).f0).toList
          ·rw [if_pos c20] at H
           have c20b0 : (t375.toList == ((rd_T38 l0_4 x29_2).f0).toList) = true := beq_iff_eq.mpr c20
           have c20b1 : (t375.toList != ((rd_T38 l0_4 x29_2).f0).toList) = false := bne_eq_false_iff_eq.mpr c20
           clear c20
           replace H := Option.bind_eq_some_iff.mp H
           obtain ⟨t376, A210, H⟩ := H
           replace H : (if ((rd_T38 l0_4 x29_2).f0).toList = ([104, 111, 115, 116] : List UInt8) then ((head_Host.f k2 ((rd_T38 l0_4 x29_2).f1)).bind fun bt377 => (if t376 = true then (if bt377.2 = true then (head_Write.l0 k2 (bt377.1.toList == a0_3.toList) (wrap64 (x5_2 + 1)) l0_4 (l0_4.length : Int) (wrap64 (x29_2 + 1)) a0_0 a0_1 a0_2 a0_3 l0_4) else (head_Write.l0 k2 false (wrap64 (x5_2 + 1)) l0_4 (l0_4.length : Int) (wrap64 (x29_2 + 1)) a0_0 a0_1 a0_2 a0_3 l0_4)) else (head_Write.l0 k2 false (wrap64 (x5_2 + 1)) l0_4 (l0_4.length : Int) (wrap64 (x29_2 + 1)) a0_0 a0_1 a0_2 a0_3 l0_4))) else (head_Write.l0 k2 t376 x5_2 l0_4 (l0_4.length : Int) (wrap64 (x29_2 + 1)) a0_0 a0_1 a0_2 a0_3 l0_4)) = some (r1, r2) := H
           have A21 := Aside0.mk A210
           clear A210
           by_cases c22 : ((rd_T38 l0_4 x29_2).f0).toList = ([104, 111, 115, 116] : List UInt8)
           ·rw [if_pos c22] at H
            have c22b0 : (((rd_T38 l0_4 x29_2).f0).toList == ([104, 111, 115, 116] : List UInt8)) = true := beq_iff_eq.mpr c22
            have c22b1 : (((rd_T38 l0_4 x29_2).f0).toList != ([104, 111, 115, 116] : List UInt8)) = false := bne_eq_false_iff_eq.mpr c22
            clear c22
            replace H := Option.bind_eq_some_iff.mp H
            obtain ⟨⟨t377, t378⟩, A230, H⟩ := H
            replace H : (if t376 = true then (if t378 = true then (head_Write.l0 k2 (t377.toList == a0_3.toList) (wrap64 (x5_2 + 1)) l0_4 (l0_4.length : Int) (wrap64 (x29_2 + 1)) a0_0 a0_1 a0_2 a0_3 l0_4) else (head_Write.l0 k2 false (wrap64 (x5_2 + 1)) l0_4 (l0_4.length : Int) (wrap64 (x29_2 + 1)) a0_0 a0_1 a0_2 a0_3 l0_4)) else (head_Write.l0 k2 false (wrap64 (x5_2 + 1)) l0_4 (l0_4.length : Int) (wrap64 (x29_2 + 1)) a0_0 a0_1 a0_2 a0_3 l0_4)) = some (r1, r2) := H
            have A23 := Aside0.mk A230
            clear A230
            by_cases c24 : t376 = true
            ·subst c24
             have H1 : (if t378 = true then (head_Write.l0 k2 (t377.toList == a0_3.toList) (wrap64 (x5_2 + 1)) l0_4 (l0_4.length : Int) (wrap64 (x29_2 + 1)) a0_0 a0_1 a0_2 a0_3 l0_4) else (head_Write.l0 k2 false (wrap64 (x5_2 + 1)) l0_4 (l0_4.length : Int) (wrap64 (x29_2 + 1)) a0_0 a0_1 a0_2 a0_3 l0_4)) = some (r1, r2) := by rw [if_pos rfl] at H; exact H
             clear H
             have H := H1
             clear H1
             by_cases c25 : t378 = true
             ·subst c25
              have H1 : (head_Write.l0 k2 (t377.toList == a0_3.toList) (wrap64 (x5_2 + 1)) l0_4 (l0_4.length : Int) (wrap64 (x29_2 + 1)) a0_0 a0_1 a0_2 a0_3 l0_4) = some (r1, r2) := by rw [if_pos rfl] at H; exact H
              clear H
              have H := H1
              clear H1
              have H' := Aside0.mk H
              clear H
              have p372 : 0 ≤ (x29_2 : Int) := of_decide_eq_true (by first | (with_reducible assumption) | assumption)
              have q372 : x29_2 < (l0_4.length : Int) := of_decide_eq_true (by first | (with_reducible assumption) | assumption)
              obtain ⟨ad372, e372, hx372_0, hx372_1⟩ := at_T38 HR0_4.out x29_2 p372 q372
              cases e372
              replace hx372_0 := (HB.out.cell (World.block_lt_of_cell? w _ hx372_0)).trans hx372_0
              replace hx372_1 := (HB.out.cell (World.block_lt_of_cell? w _ hx372_1)).trans hx372_1
              replace p372 := eq_true p372
              replace q372 := eq_true q372
              try go_wp2_with (first | ((with_reducible refine gate_dst (N := 7) rfl ?_); (try (refine gate_guard (by rfl) ?_; dsimp only)); refine box_event ?hg (N := 7) ?hd (cs := #[.string (⟨#[]⟩ : ByteArray), .string (⟨#[]⟩ : ByteArray)]) (t := 38) ?hr ?_; (case hd => rfl); (case hg => rfl); (case hr => first | (go_simp; done) | (go_simp; rfl)); intro gb373 hg w26 hbox hb; have n0_ := Aside0.mk (blk_below (g := gb368) (o := .cells #[.string a0_0, .string a0_1, .string a0_2, .string a0_3, .slice (some ad372) l0_4.length c0_4] 25 (0, 0)) (by (with_reducible repeat (first | refine blk_drewN ?_ _ | refine blk_drew ?_ | refine blk_alloc ?_ _)); exact BK368.out) hb); have n1_ := Aside0.mk (below_step (by repeat (first | (with_reducible first | exact HB.out | apply below_alloc | apply pw_below_drewN | apply below_drew1 | refine below_set ?_ GE368.out) | exact HB.out)) hb); have n2_ := Aside0.mk (hbox); have n3_ := Aside0.mk ((by rw [hg]; exact (below_size (by repeat (first | (with_reducible first | exact HB.out | apply below_alloc | apply pw_below_drewN | apply below_drew1 | refine below_set ?_ GE368.out) | exact HB.out))) : w.heap.size ≤ gb373)); have n4_ := Aside0.mk ((by rw [hg]; exact (below_size (by repeat (first | (with_reducible first | exact HB.out | apply below_alloc | apply pw_below_drewN | apply below_drew1 | refine below_set ?_ GE368.out) | exact HB.out))) : w.heap.size ≤ gb373)); have n5_ := Aside0.mk ((by rw [hg]; exact Nat.ne_of_lt (blk_lt (g := gb368) (o := .cells #[.string a0_0, .string a0_1, .string a0_2, .string a0_3, .slice (some ad372) l0_4.length c0_4] 25 (0, 0)) (by (with_reducible repeat (first | refine blk_drewN ?_ _ | refine blk_drew ?_ | refine blk_alloc ?_ _)); exact BK368.out)) : gb368 ≠ gb373)); have n6_ := Aside0.mk ((by rw [hg]; exact Nat.ne_of_gt (blk_lt (g := gb368) (o := .cells #[.string a0_0, .string a0_1, .string a0_2, .string a0_3, .slice (some ad372) l0_4.length c0_4] 25 (0, 0)) (by (with_reducible repeat (first | refine blk_drewN ?_ _ | refine blk_drew ?_ | refine blk_alloc ?_ _)); exact BK368.out)) : gb373 ≠ gb368)); clear BK368; clear HB; have BK368 := n0_; have HB := n1_; have BK373 := n2_; have GW373 := n3_; have GE373 := n4_; have NB368_373 := n5_; have NB373_368 := n6_; clear n0_ n1_ n2_ n3_ n4_ n5_ n6_; clear hb hbox hg; have hnb27 := NB373_368.out; have hnc27 := NB368_373.out; have hcz28_0 : w26.cell? ⟨gb373, 0, none⟩ = some (.string (⟨#[]⟩ : ByteArray)) := (blk_cell BK373.out 0).trans rfl; have hcz28_1 : w26.cell? ⟨gb373, 1, none⟩ = some (.string (⟨#[]⟩ : ByteArray)) := (blk_cell BK373.out 1).trans rfl; have hfz28_0 := blk_frozen BK373.out 0; have hfz28_1 := blk_frozen BK373.out 1))
              have n0_ : Aside0 (((w26.setCell ⟨gb373, 0, none⟩ (.string ((rd_T38 l0_4 x29_2).f0))).setCell ⟨gb373, 1, none⟩ (.string ((rd_T38 l0_4 x29_2).f1))).heap[gb368]? = some (.cells #[.string a0_0, .string a0_1, .string a0_2, .string a0_3, .slice (some ad372) l0_4.length c0_4] 25 (0, 0))) := ⟨by (with_reducible repeat (first | refine blk_drewN ?_ _ | refine blk_drew ?_ | refine blk_alloc ?_ _)); refine blk_far ?_ NB368_373.out _; (with_reducible repeat (first | refine blk_drewN ?_ _ | refine blk_drew ?_ | refine blk_alloc ?_ _)); refine blk_far ?_ NB368_373.out _; (with_reducible repeat (first | refine blk_drewN ?_ _ | refine blk_drew ?_ | refine blk_alloc ?_ _)); exact BK368.out⟩
              have n1_ : Aside0 (((w26.setCell ⟨gb373, 0, none⟩ (.string ((rd_T38 l0_4 x29_2).f0))).setCell ⟨gb373, 1, none⟩ (.string ((rd_T38 l0_4 x29_2).f1))).heap[gb373]? = some (.cells #[.string ((rd_T38 l0_4 x29_2).f0), .string ((rd_T38 l0_4 x29_2).f1)] 38 (0, 0))) := ⟨by (with_reducible repeat (first | refine blk_drewN ?_ _ | refine blk_drew ?_ | refine blk_alloc ?_ _)); refine blk_put (cs := #[.string ((rd_T38 l0_4 x29_2).f0), .string (⟨#[]⟩ : ByteArray)]) ?_ 1 _ rfl; (with_reducible repeat (first | refine blk_drewN ?_ _ | refine blk_drew ?_ | refine blk_alloc ?_ _)); refine blk_put (cs := #[.string (⟨#[]⟩ : ByteArray), .string (⟨#[]⟩ : ByteArray)]) ?_ 0 _ rfl; (with_reducible repeat (first | refine blk_drewN ?_ _ | refine blk_drew ?_ | refine blk_alloc ?_ _)); exact BK373.out⟩
              have n2_ : Aside0 (Below w.heap.size w ((w26.setCell ⟨gb373, 0, none⟩ (.string ((rd_T38 l0_4 x29_2).f0))).setCell ⟨gb373, 1, none⟩ (.string ((rd_T38 l0_4 x29_2).f1)))) := ⟨by repeat (first | (with_reducible first | exact HB.out | apply below_alloc | apply pw_below_drewN | apply below_drew1 | refine below_set ?_ GE368.out | refine below_set ?_ GE373.out) | exact HB.out)⟩
              (try clear BK368)
              (try clear BK373)
              (try clear HB)
              generalize ((w26.setCell ⟨gb373, 0, none⟩ (.string ((rd_T38 l0_4 x29_2).f0))).setCell ⟨gb373, 1, none⟩ (.string ((rd_T38 l0_4 x29_2).f1))) = w29 at n0_ n1_ n2_ ⊢
              have BK368 := n0_
              have BK373 := n1_
              have HB := n2_
              clear n0_ n1_ n2_
              have n0_ := Aside0.mk (blk_drew BK368.out)
              have n1_ := Aside0.mk (blk_drew BK373.out)
              have n2_ := Aside0.mk (below_drew1 HB.out)
              clear BK368
              clear BK373
              clear HB
              have BK368 := n0_
              have BK373 := n1_
              have HB := n2_
              clear n0_ n1_ n2_
              refine start_ (n := 20) (S := fun w' => w'.cell? ⟨gb373, 0, none⟩ = some (.string ((rd_T38 l0_4 x29_2).f0)) ∧ w'.cell? ⟨gb373, 1, none⟩ = some (.string ((rd_T38 l0_4 x29_2).f1))) (ds := []) head_Write.a0 (by kernel_rfl) rfl rfl ⟨(blk_cell BK373.out 0).trans rfl, (blk_cell BK373.out 1).trans rfl⟩ (fun hHeld => ?_); refine with_tabW head_Write.tab6 head_Write.bits6 (fun HT_ HW_ => ?_)
              generalize w29.drew = w30 at BK368 BK373 HB hHeld ⊢
              refine pure_ (i := 0) (N := some 33) (v := ?_) (a' := ?_) head_Write.a1 rfl rfl (any_of HT_.out (by kernel_rfl)) (fun _ _ _ h => h) (Or.inl ⟨by rfl, ?_⟩) ?_ ?_
              rotate_left
              ·intro w'
               go_simp
               with_reducible rfl
              rotate_left
              ·simp only [Act.put, List.setIfInBounds_toArray, List.set_cons_zero, List.set_cons_succ, i64_w, i32_w]
               rfl
              refine pure_ (i := 1) (N := some 34) (v := ?_) (a' := ?_) head_Write.a2 rfl rfl (any_of HT_.out (by kernel_rfl)) (fun _ _ _ h => h) (Or.inl ⟨by rfl, ?_⟩) ?_ ?_
              rotate_left
              ·intro w'
               go_simp
               with_reducible rfl
              rotate_left
              ·simp only [Act.put, List.setIfInBounds_toArray, List.set_cons_zero, List.set_cons_succ, i64_w, i32_w]
               rfl
              refine pure_ (i := 2) (N := some 35) (v := ?_) (a' := ?_) head_Write.a3 rfl rfl (any_of HT_.out (by kernel_rfl)) (fun _ _ _ h => h) (Or.inl ⟨by rfl, ?_⟩) ?_ ?_
              rotate_left
              ·intro w'
               go_simp
               with_reducible rfl
              rotate_left
              ·simp only [Act.put, List.setIfInBounds_toArray, List.set_cons_zero, List.set_cons_succ, i64_w, i32_w]
               rfl
              refine take_ (i := 3) (N := some 36) (v := ?_) (a' := ?_) head_Write.a4 rfl rfl (take_ofW HT_.out HW_.out (by kernel_rfl)) (fun _ _ _ h => h) (Or.inl ⟨by rfl, ?_⟩) hHeld ?_ ?_
              rotate_left
              ·rintro w' ⟨s0, s1⟩
               go_simp
               with_reducible rfl
              rotate_left
              ·simp only [Act.put, List.setIfInBounds_toArray, List.set_cons_zero, List.set_cons_succ, i64_w, i32_w]
               rfl
              refine one_ (i := 4) (N := some 37) head_Write.a5 rfl rfl (one_of HT_.out (by kernel_rfl)) (by decide) (fun K hK => ?_)
              refine goes_ Tryd.func38 (by kernel_rfl) rfl #[.string ((rd_T38 l0_4 x29_2).f0)] (by rfl) rfl rfl (by (try simp only [List.map_toArray, List.map_cons, List.map_nil]); first | done | rfl | (simp only [List.length_drop, List.length_take]; rfl)) ?_
              with_reducible refine (head_token.calls k2 ((rd_T38 l0_4 x29_2).f0) true _ A17.out).mono ?_
              rintro e w' ⟨rfl, ⟨nd, rfl⟩⟩
              refine ⟨_, rfl, ?_⟩
              refine hK.out _ _ ⟨(blk_cell BK373.out 0).trans rfl, (blk_cell BK373.out 1).trans rfl⟩ (fun hHeld => ?_)
              clear hK K
              refine norm_ (a' := ?_) ?_ ?_
              rotate_left
              ·show Act.put _ (some 37) _ = _
               simp only [Act.put, List.setIfInBounds_toArray, List.set_cons_zero, List.set_cons_succ, i64_w, i32_w]
               rfl
              refine pure_ (i := 5) (N := some 38) (v := ?_) (a' := ?_) head_Write.a6 rfl rfl (any_of HT_.out (by kernel_rfl)) (fun _ _ _ h => h) (Or.inl ⟨by rfl, ?_⟩) ?_ ?_
              rotate_left
              ·intro w'
               go_simp
               with_reducible rfl
              rotate_left
              ·simp only [Act.put, List.setIfInBounds_toArray, List.set_cons_zero, List.set_cons_succ, i64_w, i32_w]
               rfl
              refine pure_ (i := 6) (N := some 39) (v := ?_) (a' := ?_) head_Write.a7 rfl rfl (any_of HT_.out (by kernel_rfl)) (fun _ _ _ h => h) (Or.inl ⟨by rfl, ?_⟩) ?_ ?_
              rotate_left
              ·intro w'
               go_simp
               with_reducible rfl
              rotate_left
              ·simp only [Act.put, List.setIfInBounds_toArray, List.set_cons_zero, List.set_cons_succ, i64_w, i32_w]
               rfl
              refine pure_ (i := 7) (N := some 40) (v := ?_) (a' := ?_) head_Write.a8 rfl rfl (any_of HT_.out (by kernel_rfl)) (fun _ _ _ h => h) (Or.inl ⟨by rfl, ?_⟩) ?_ ?_
              rotate_left
              ·intro w'
               go_simp
               with_reducible rfl
              rotate_left
              ·simp only [Act.put, List.setIfInBounds_toArray, List.set_cons_zero, List.set_cons_succ, i64_w, i32_w]
               rfl
              refine pure_ (i := 10) (N := some 43) (v := ?_) (a' := ?_) head_Write.a9 rfl rfl (any_of HT_.out (by kernel_rfl)) (fun _ _ _ h => h) (Or.inl ⟨by rfl, ?_⟩) ?_ ?_
              rotate_left
              ·intro w'
               go_simp
               with_reducible rfl
              rotate_left
              ·simp only [Act.put, List.setIfInBounds_toArray, List.set_cons_zero, List.set_cons_succ, i64_w, i32_w]
               rfl
              refine take_ (i := 8) (N := some 41) (v := ?_) (a' := ?_) head_Write.a10 rfl rfl (take_ofW HT_.out HW_.out (by kernel_rfl)) (fun _ _ _ h => h) (Or.inl ⟨by rfl, ?_⟩) hHeld ?_ ?_
              rotate_left
              ·rintro w' ⟨s0, s1⟩
               go_simp
               with_reducible rfl
              rotate_left
              ·simp only [Act.put, List.setIfInBounds_toArray, List.set_cons_zero, List.set_cons_succ, i64_w, i32_w]
               rfl
              refine take_ (i := 11) (N := some 44) (v := ?_) (a' := ?_) head_Write.a11 rfl rfl (take_ofW HT_.out HW_.out (by kernel_rfl)) (fun _ _ _ h => h) (Or.inl ⟨by rfl, ?_⟩) hHeld ?_ ?_
              rotate_left
              ·rintro w' ⟨s0, s1⟩
               go_simp
               with_reducible rfl
              rotate_left
              ·simp only [Act.put, List.setIfInBounds_toArray, List.set_cons_zero, List.set_cons_succ, i64_w, i32_w]
               rfl
              refine one_ (i := 9) (N := some 42) head_Write.a12 rfl rfl (one_of HT_.out (by kernel_rfl)) (by decide) (fun K hK => ?_)
              refine goes_ Tryd.func41 (by kernel_rfl) rfl #[.string ((rd_T38 l0_4 x29_2).f0)] (by rfl) rfl rfl (by (try simp only [List.map_toArray, List.map_cons, List.map_nil]); first | done | rfl | (simp only [List.length_drop, List.length_take]; rfl)) ?_
              with_reducible refine (head_lower.calls ((rd_T38 l0_4 x29_2).f0) t375 _ A19.out).mono ?_
              rintro e w31 ⟨rfl, hb⟩
              refine ⟨_, rfl, ?_⟩
              have n0_ := Aside0.mk (blk_below (g := gb368) (o := .cells #[.string a0_0, .string a0_1, .string a0_2, .string a0_3, .slice (some ad372) l0_4.length c0_4] 25 (0, 0)) (by (with_reducible repeat (first | refine blk_drewN ?_ _ | refine blk_drew ?_ | refine blk_alloc ?_ _)); exact BK368.out) hb)
              have n1_ := Aside0.mk (blk_below (g := gb373) (o := .cells #[.string ((rd_T38 l0_4 x29_2).f0), .string ((rd_T38 l0_4 x29_2).f1)] 38 (0, 0)) (by (with_reducible repeat (first | refine blk_drewN ?_ _ | refine blk_drew ?_ | refine blk_alloc ?_ _)); exact BK373.out) hb)
              have n2_ := Aside0.mk (below_step (by repeat (first | (with_reducible first | exact HB.out | apply below_alloc | apply pw_below_drewN | apply below_drew1 | refine below_set ?_ GE368.out | refine below_set ?_ GE373.out) | exact HB.out)) hb)
              clear BK368
              clear BK373
              clear HB
              have BK368 := n0_
              have BK373 := n1_
              have HB := n2_
              clear n0_ n1_ n2_
              (try clear hb)
              (try clear hb2)
              (try clear hk)
              (try clear hi)
              refine hK.out _ _ ⟨(blk_cell BK373.out 0).trans rfl, (blk_cell BK373.out 1).trans rfl⟩ (fun hHeld => ?_)
              clear hK K
              refine norm_ (a' := ?_) ?_ ?_
              rotate_left
              ·show Act.put _ (some 42) _ = _
               simp only [Act.put, List.setIfInBounds_toArray, List.set_cons_zero, List.set_cons_succ, i64_w, i32_w]
               rfl
              refine pure_ (i := 12) (N := some 45) (v := ?_) (a' := ?_) head_Write.a13 rfl rfl (any_of HT_.out (by kernel_rfl)) (fun _ _ _ h => h) (Or.inl ⟨by rfl, ?_⟩) ?_ ?_
              rotate_left
              ·intro w'
               go_simp
               with_reducible rfl
              rotate_left
              ·simp only [Act.put, List.setIfInBounds_toArray, List.set_cons_zero, List.set_cons_succ, i64_w, i32_w]
               rfl
              refine pure_ (i := 13) (N := some 46) (v := ?_) (a' := ?_) head_Write.a14 rfl rfl (any_of HT_.out (by kernel_rfl)) (fun _ _ _ h => h) (Or.inl ⟨by rfl, ?_⟩) ?_ ?_
              rotate_left
              ·intro w'
               go_simp
               with_reducible rfl
              rotate_left
              ·simp only [Act.put, List.setIfInBounds_toArray, List.set_cons_zero, List.set_cons_succ, i64_w, i32_w]
               rfl
              refine pure_ (i := 14) (N := some 47) (v := ?_) (a' := ?_) head_Write.a15 rfl rfl (any_of HT_.out (by kernel_rfl)) (fun _ _ _ h => h) (Or.inl ⟨by rfl, ?_⟩) ?_ ?_
              rotate_left
              ·intro w'
               go_simp
               with_reducible rfl
              rotate_left
              ·simp only [Act.put, List.setIfInBounds_toArray, List.set_cons_zero, List.set_cons_succ, i64_w, i32_w]
               rfl
              refine pure_ (i := 15) (N := some 48) (v := ?_) (a' := ?_) head_Write.a16 rfl rfl (any_of HT_.out (by kernel_rfl)) (fun _ _ _ h => h) (Or.inl ⟨by rfl, ?_⟩) ?_ ?_
              rotate_left
              ·intro w'
               go_simp
               with_reducible rfl
              rotate_left
              ·simp only [Act.put, List.setIfInBounds_toArray, List.set_cons_zero, List.set_cons_succ, i64_w, i32_w]
               rfl
              refine take_ (i := 16) (N := some 49) (v := ?_) (a' := ?_) head_Write.a17 rfl rfl (take_ofW HT_.out HW_.out (by kernel_rfl)) (fun _ _ _ h => h) (Or.inl ⟨by rfl, ?_⟩) hHeld ?_ ?_
              rotate_left
              ·rintro w' ⟨s0, s1⟩
               go_simp
               with_reducible rfl
              rotate_left
              ·simp only [Act.put, List.setIfInBounds_toArray, List.set_cons_zero, List.set_cons_succ, i64_w, i32_w]
               rfl
              refine one_ (i := 17) (N := some 50) head_Write.a18 rfl rfl (one_of HT_.out (by kernel_rfl)) (by decide) (fun K hK => ?_)
              refine goes_ Tryd.func40 (by kernel_rfl) rfl #[.string ((rd_T38 l0_4 x29_2).f1)] (by rfl) rfl rfl (by (try simp only [List.map_toArray, List.map_cons, List.map_nil]); first | done | rfl | (simp only [List.length_drop, List.length_take]; rfl)) ?_
              with_reducible refine (head_value.calls k2 ((rd_T38 l0_4 x29_2).f1) true _ A21.out).mono ?_
              rintro e w' ⟨rfl, ⟨nd, rfl⟩⟩
              refine ⟨_, rfl, ?_⟩
              refine hK.out _ _ ⟨(blk_cell BK373.out 0).trans rfl, (blk_cell BK373.out 1).trans rfl⟩ (fun hHeld => ?_)
              clear hK K
              refine norm_ (a' := ?_) ?_ ?_
              rotate_left
              ·show Act.put _ (some 50) _ = _
               simp only [Act.put, List.setIfInBounds_toArray, List.set_cons_zero, List.set_cons_succ, i64_w, i32_w]
               rfl
              refine pure_ (i := 18) (N := some 51) (v := ?_) (a' := ?_) head_Write.a19 rfl rfl (any_of HT_.out (by kernel_rfl)) (fun _ _ _ h => h) (Or.inl ⟨by rfl, ?_⟩) ?_ ?_
              rotate_left
              ·intro w'
               go_simp
               with_reducible rfl
              rotate_left
              ·simp only [Act.put, List.setIfInBounds_toArray, List.set_cons_zero, List.set_cons_succ, i64_w, i32_w]
               rfl
              refine pure_ (i := 19) (N := some 4) (v := ?_) (a' := ?_) head_Write.a20 rfl rfl (any_of HT_.out (by kernel_rfl)) (fun _ _ _ h => h) (Or.inl ⟨by rfl, ?_⟩) ?_ ?_
              rotate_left
              ·intro w'
               go_simp
               with_reducible rfl
              rotate_left
              ·simp only [Act.put, List.setIfInBounds_toArray, List.set_cons_zero, List.set_cons_succ, i64_w, i32_w]
               rfl
              refine done_ (done_of HT_.out (by kernel_rfl)) ?_
              have hcz32_0 : w31.cell? ⟨gb373, 0, none⟩ = some (.string ((rd_T38 l0_4 x29_2).f0)) := (blk_cell BK373.out 0).trans rfl
              have hcz32_1 : w31.cell? ⟨gb373, 1, none⟩ = some (.string ((rd_T38 l0_4 x29_2).f1)) := (blk_cell BK373.out 1).trans rfl
              have hfz32_0 := blk_frozen BK373.out 0
              have hfz32_1 := blk_frozen BK373.out 1
              try go_wp2_with (first | ((with_reducible refine gate_callee (f := 18) rfl ?_); refine goesL_ (some 60) rfl rfl Tryd.func18 (by kernel_rfl) rfl #[.string ((rd_T38 l0_4 x29_2).f1)] rfl (by (try simp only [List.map_toArray, List.map_cons, List.map_nil]); first | done | rfl | (simp only [List.length_drop, List.length_take]; rfl)) ?_; (with_reducible refine (head_Host.calls k2 ((rd_T38 l0_4 x29_2).f1) t377 true _ ?side1 A23.out).mono ?_); (case side1 => exact ML.keep HML.out (by repeat (first | (with_reducible first | exact HB.out | apply below_alloc | apply pw_below_drewN | apply below_drew1 | refine below_set ?_ GE368.out | refine below_set ?_ GE373.out) | exact HB.out))); rintro e w33 ⟨rfl, hb⟩; refine ⟨_, rfl, ?_⟩; have n0_ := Aside0.mk (blk_below (g := gb368) (o := .cells #[.string a0_0, .string a0_1, .string a0_2, .string a0_3, .slice (some ad372) l0_4.length c0_4] 25 (0, 0)) (by (with_reducible repeat (first | refine blk_drewN ?_ _ | refine blk_drew ?_ | refine blk_alloc ?_ _)); exact BK368.out) hb); have n1_ := Aside0.mk (blk_below (g := gb373) (o := .cells #[.string ((rd_T38 l0_4 x29_2).f0), .string ((rd_T38 l0_4 x29_2).f1)] 38 (0, 0)) (by (with_reducible repeat (first | refine blk_drewN ?_ _ | refine blk_drew ?_ | refine blk_alloc ?_ _)); exact BK373.out) hb); have n2_ := Aside0.mk (below_step (by repeat (first | (with_reducible first | exact HB.out | apply below_alloc | apply pw_below_drewN | apply below_drew1 | refine below_set ?_ GE368.out | refine below_set ?_ GE373.out) | exact HB.out)) hb); clear BK368; clear BK373; clear HB; have BK368 := n0_; have BK373 := n1_; have HB := n2_; clear n0_ n1_ n2_; (try clear hb); (try clear hb2); (try clear hk); (try clear hi); have hcz34_0 : w33.cell? ⟨gb368, 0, none⟩ = some (.string a0_0) := (blk_cell BK368.out 0).trans rfl; have hcz34_1 : w33.cell? ⟨gb368, 1, none⟩ = some (.string a0_1) := (blk_cell BK368.out 1).trans rfl; have hcz34_2 : w33.cell? ⟨gb368, 2, none⟩ = some (.string a0_2) := (blk_cell BK368.out 2).trans rfl; have hcz34_3 : w33.cell? ⟨gb368, 3, none⟩ = some (.string a0_3) := (blk_cell BK368.out 3).trans rfl; have hcz34_4 : w33.cell? ⟨gb368, 4, none⟩ = some (.slice (some ad372) l0_4.length c0_4) := (blk_cell BK368.out 4).trans rfl; have hfz34_0 := blk_frozen BK368.out 0; have hfz34_1 := blk_frozen BK368.out 1; have hfz34_2 := blk_frozen BK368.out 2; have hfz34_3 := blk_frozen BK368.out 3; have hfz34_4 := blk_frozen BK368.out 4))
              go_roundg k2
              case measure => have := HJ1.out; have := HK2.out; omega
              case rel => exact ⟨((t377.toList == a0_3.toList)), (wrap64 (x5_2 + 1)), (wrap64 (x29_2 + 1)), (by first | rfl | (simp; done) | (simp [*]; done)), (by first | rfl | (simp; done) | (simp [*]; done)), (by first | rfl | (simp; done) | (simp [*]; done)), H', ⟨by have := HJ1.out; have := HK2.out; omega⟩, ⟨by (with_reducible repeat (first | refine blk_drewN ?_ _ | refine blk_drew ?_ | refine blk_alloc ?_ _)); exact BK368.out⟩, ⟨by repeat (first | (with_reducible first | exact HB.out | apply below_alloc | apply pw_below_drewN | apply below_drew1 | refine below_set ?_ GE368.out | refine below_set ?_ GE373.out) | exact HB.out)⟩⟩
             ·replace c25 := Bool.eq_false_iff.mpr c25
              subst c25
              have H1 : (head_Write.l0 k2 false (wrap64 (x5_2 + 1)) l0_4 (l0_4.length : Int) (wrap64 (x29_2 + 1)) a0_0 a0_1 a0_2 a0_3 l0_4) = some (r1, r2) := by rw [if_neg (show ¬ (false = true) by decide)] at H; exact H
              clear H
              have H := H1
              clear H1
              have H' := Aside0.mk H
              clear H
              have p372 : 0 ≤ (x29_2 : Int) := of_decide_eq_true (by first | (with_reducible assumption) | assumption)
              have q372 : x29_2 < (l0_4.length : Int) := of_decide_eq_true (by first | (with_reducible assumption) | assumption)
              obtain ⟨ad372, e372, hx372_0, hx372_1⟩ := at_T38 HR0_4.out x29_2 p372 q372
              cases e372
              replace hx372_0 := (HB.out.cell (World.block_lt_of_cell? w _ hx372_0)).trans hx372_0
              replace hx372_1 := (HB.out.cell (World.block_lt_of_cell? w _ hx372_1)).trans hx372_1
              replace p372 := eq_true p372
              replace q372 := eq_true q372
              try go_wp2_with (first | ((with_reducible refine gate_dst (N := 7) rfl ?_); (try (refine gate_guard (by rfl) ?_; dsimp only)); refine box_event ?hg (N := 7) ?hd (cs := #[.string (⟨#[]⟩ : ByteArray), .string (⟨#[]⟩ : ByteArray)]) (t := 38) ?hr ?_; (case hd => rfl); (case hg => rfl); (case hr => first | (go_simp; done) | (go_simp; rfl)); intro gb373 hg w35 hbox hb; have n0_ := Aside0.mk (blk_below (g := gb368) (o := .cells #[.string a0_0, .string a0_1, .string a0_2, .string a0_3, .slice (some ad372) l0_4.length c0_4] 25 (0, 0)) (by (with_reducible repeat (first | refine blk_drewN ?_ _ | refine blk_drew ?_ | refine blk_alloc ?_ _)); exact BK368.out) hb); have n1_ := Aside0.mk (below_step (by repeat (first | (with_reducible first | exact HB.out | apply below_alloc | apply pw_below_drewN | apply below_drew1 | refine below_set ?_ GE368.out) | exact HB.out)) hb); have n2_ := Aside0.mk (hbox); have n3_ := Aside0.mk ((by rw [hg]; exact (below_size (by repeat (first | (with_reducible first | exact HB.out | apply below_alloc | apply pw_below_drewN | apply below_drew1 | refine below_set ?_ GE368.out) | exact HB.out))) : w.heap.size ≤ gb373)); have n4_ := Aside0.mk ((by rw [hg]; exact (below_size (by repeat (first | (with_reducible first | exact HB.out | apply below_alloc | apply pw_below_drewN | apply below_drew1 | refine below_set ?_ GE368.out) | exact HB.out))) : w.heap.size ≤ gb373)); have n5_ := Aside0.mk ((by rw [hg]; exact Nat.ne_of_lt (blk_lt (g := gb368) (o := .cells #[.string a0_0, .string a0_1, .string a0_2, .string a0_3, .slice (some ad372) l0_4.length c0_4] 25 (0, 0)) (by (with_reducible repeat (first | refine blk_drewN ?_ _ | refine blk_drew ?_ | refine blk_alloc ?_ _)); exact BK368.out)) : gb368 ≠ gb373)); have n6_ := Aside0.mk ((by rw [hg]; exact Nat.ne_of_gt (blk_lt (g := gb368) (o := .cells #[.string a0_0, .string a0_1, .string a0_2, .string a0_3, .slice (some ad372) l0_4.length c0_4] 25 (0, 0)) (by (with_reducible repeat (first | refine blk_drewN ?_ _ | refine blk_drew ?_ | refine blk_alloc ?_ _)); exact BK368.out)) : gb373 ≠ gb368)); clear BK368; clear HB; have BK368 := n0_; have HB := n1_; have BK373 := n2_; have GW373 := n3_; have GE373 := n4_; have NB368_373 := n5_; have NB373_368 := n6_; clear n0_ n1_ n2_ n3_ n4_ n5_ n6_; clear hb hbox hg; have hnb36 := NB373_368.out; have hnc36 := NB368_373.out; have hcz37_0 : w35.cell? ⟨gb373, 0, none⟩ = some (.string (⟨#[]⟩ : ByteArray)) := (blk_cell BK373.out 0).trans rfl; have hcz37_1 : w35.cell? ⟨gb373, 1, none⟩ = some (.string (⟨#[]⟩ : ByteArray)) := (blk_cell BK373.out 1).trans rfl; have hfz37_0 := blk_frozen BK373.out 0; have hfz37_1 := blk_frozen BK373.out 1))
              have n0_ : Aside0 (((w35.setCell ⟨gb373, 0, none⟩ (.string ((rd_T38 l0_4 x29_2).f0))).setCell ⟨gb373, 1, none⟩ (.string ((rd_T38 l0_4 x29_2).f1))).heap[gb368]? = some (.cells #[.string a0_0, .string a0_1, .string a0_2, .string a0_3, .slice (some ad372) l0_4.length c0_4] 25 (0, 0))) := ⟨by (with_reducible repeat (first | refine blk_drewN ?_ _ | refine blk_drew ?_ | refine blk_alloc ?_ _)); refine blk_far ?_ NB368_373.out _; (with_reducible repeat (first | refine blk_drewN ?_ _ | refine blk_drew ?_ | refine blk_alloc ?_ _)); refine blk_far ?_ NB368_373.out _; (with_reducible repeat (first | refine blk_drewN ?_ _ | refine blk_drew ?_ | refine blk_alloc ?_ _)); exact BK368.out⟩
              have n1_ : Aside0 (((w35.setCell ⟨gb373, 0, none⟩ (.string ((rd_T38 l0_4 x29_2).f0))).setCell ⟨gb373, 1, none⟩ (.string ((rd_T38 l0_4 x29_2).f1))).heap[gb373]? = some (.cells #[.string ((rd_T38 l0_4 x29_2).f0), .string ((rd_T38 l0_4 x29_2).f1)] 38 (0, 0))) := ⟨by (with_reducible repeat (first | refine blk_drewN ?_ _ | refine blk_drew ?_ | refine blk_alloc ?_ _)); refine blk_put (cs := #[.string ((rd_T38 l0_4 x29_2).f0), .string (⟨#[]⟩ : ByteArray)]) ?_ 1 _ rfl; (with_reducible repeat (first | refine blk_drewN ?_ _ | refine blk_drew ?_ | refine blk_alloc ?_ _)); refine blk_put (cs := #[.string (⟨#[]⟩ : ByteArray), .string (⟨#[]⟩ : ByteArray)]) ?_ 0 _ rfl; (with_reducible repeat (first | refine blk_drewN ?_ _ | refine blk_drew ?_ | refine blk_alloc ?_ _)); exact BK373.out⟩
              have n2_ : Aside0 (Below w.heap.size w ((w35.setCell ⟨gb373, 0, none⟩ (.string ((rd_T38 l0_4 x29_2).f0))).setCell ⟨gb373, 1, none⟩ (.string ((rd_T38 l0_4 x29_2).f1)))) := ⟨by repeat (first | (with_reducible first | exact HB.out | apply below_alloc | apply pw_below_drewN | apply below_drew1 | refine below_set ?_ GE368.out | refine below_set ?_ GE373.out) | exact HB.out)⟩
              (try clear BK368)
              (try clear BK373)
              (try clear HB)
              generalize ((w35.setCell ⟨gb373, 0, none⟩ (.string ((rd_T38 l0_4 x29_2).f0))).setCell ⟨gb373, 1, none⟩ (.string ((rd_T38 l0_4 x29_2).f1))) = w38 at n0_ n1_ n2_ ⊢
              have BK368 := n0_
              have BK373 := n1_
              have HB := n2_
              clear n0_ n1_ n2_
              have n0_ := Aside0.mk (blk_drew BK368.out)
              have n1_ := Aside0.mk (blk_drew BK373.out)
              have n2_ := Aside0.mk (below_drew1 HB.out)
              clear BK368
              clear BK373
              clear HB
              have BK368 := n0_
              have BK373 := n1_
              have HB := n2_
              clear n0_ n1_ n2_
              refine start_ (n := 20) (S := fun w' => w'.cell? ⟨gb373, 0, none⟩ = some (.string ((rd_T38 l0_4 x29_2).f0)) ∧ w'.cell? ⟨gb373, 1, none⟩ = some (.string ((rd_T38 l0_4 x29_2).f1))) (ds := []) head_Write.a0 (by kernel_rfl) rfl rfl ⟨(blk_cell BK373.out 0).trans rfl, (blk_cell BK373.out 1).trans rfl⟩ (fun hHeld => ?_); refine with_tabW head_Write.tab6 head_Write.bits6 (fun HT_ HW_ => ?_)
              generalize w38.drew = w39 at BK368 BK373 HB hHeld ⊢
              refine pure_ (i := 0) (N := some 33) (v := ?_) (a' := ?_) head_Write.a1 rfl rfl (any_of HT_.out (by kernel_rfl)) (fun _ _ _ h => h) (Or.inl ⟨by rfl, ?_⟩) ?_ ?_
              rotate_left
              ·intro w'
               go_simp
               with_reducible rfl
              rotate_left
              ·simp only [Act.put, List.setIfInBounds_toArray, List.set_cons_zero, List.set_cons_succ, i64_w, i32_w]
               rfl
              refine pure_ (i := 1) (N := some 34) (v := ?_) (a' := ?_) head_Write.a2 rfl rfl (any_of HT_.out (by kernel_rfl)) (fun _ _ _ h => h) (Or.inl ⟨by rfl, ?_⟩) ?_ ?_
              rotate_left
              ·intro w'
               go_simp
               with_reducible rfl
              rotate_left
              ·simp only [Act.put, List.setIfInBounds_toArray, List.set_cons_zero, List.set_cons_succ, i64_w, i32_w]
               rfl
              refine pure_ (i := 2) (N := some 35) (v := ?_) (a' := ?_) head_Write.a3 rfl rfl (any_of HT_.out (by kernel_rfl)) (fun _ _ _ h => h) (Or.inl ⟨by rfl, ?_⟩) ?_ ?_
              rotate_left
              ·intro w'
               go_simp
               with_reducible rfl
              rotate_left
              ·simp only [Act.put, List.setIfInBounds_toArray, List.set_cons_zero, List.set_cons_succ, i64_w, i32_w]
               rfl
              refine take_ (i := 3) (N := some 36) (v := ?_) (a' := ?_) head_Write.a4 rfl rfl (take_ofW HT_.out HW_.out (by kernel_rfl)) (fun _ _ _ h => h) (Or.inl ⟨by rfl, ?_⟩) hHeld ?_ ?_
              rotate_left
              ·rintro w' ⟨s0, s1⟩
               go_simp
               with_reducible rfl
              rotate_left
              ·simp only [Act.put, List.setIfInBounds_toArray, List.set_cons_zero, List.set_cons_succ, i64_w, i32_w]
               rfl
              refine one_ (i := 4) (N := some 37) head_Write.a5 rfl rfl (one_of HT_.out (by kernel_rfl)) (by decide) (fun K hK => ?_)
              refine goes_ Tryd.func38 (by kernel_rfl) rfl #[.string ((rd_T38 l0_4 x29_2).f0)] (by rfl) rfl rfl (by (try simp only [List.map_toArray, List.map_cons, List.map_nil]); first | done | rfl | (simp only [List.length_drop, List.length_take]; rfl)) ?_
              with_reducible refine (head_token.calls k2 ((rd_T38 l0_4 x29_2).f0) true _ A17.out).mono ?_
              rintro e w' ⟨rfl, ⟨nd, rfl⟩⟩
              refine ⟨_, rfl, ?_⟩
              refine hK.out _ _ ⟨(blk_cell BK373.out 0).trans rfl, (blk_cell BK373.out 1).trans rfl⟩ (fun hHeld => ?_)
              clear hK K
              refine norm_ (a' := ?_) ?_ ?_
              rotate_left
              ·show Act.put _ (some 37) _ = _
               simp only [Act.put, List.setIfInBounds_toArray, List.set_cons_zero, List.set_cons_succ, i64_w, i32_w]
               rfl
              refine pure_ (i := 5) (N := some 38) (v := ?_) (a' := ?_) head_Write.a6 rfl rfl (any_of HT_.out (by kernel_rfl)) (fun _ _ _ h => h) (Or.inl ⟨by rfl, ?_⟩) ?_ ?_
              rotate_left
              ·intro w'
               go_simp
               with_reducible rfl
              rotate_left
              ·simp only [Act.put, List.setIfInBounds_toArray, List.set_cons_zero, List.set_cons_succ, i64_w, i32_w]
               rfl
              refine pure_ (i := 6) (N := some 39) (v := ?_) (a' := ?_) head_Write.a7 rfl rfl (any_of HT_.out (by kernel_rfl)) (fun _ _ _ h => h) (Or.inl ⟨by rfl, ?_⟩) ?_ ?_
              rotate_left
              ·intro w'
               go_simp
               with_reducible rfl
              rotate_left
              ·simp only [Act.put, List.setIfInBounds_toArray, List.set_cons_zero, List.set_cons_succ, i64_w, i32_w]
               rfl
              refine pure_ (i := 7) (N := some 40) (v := ?_) (a' := ?_) head_Write.a8 rfl rfl (any_of HT_.out (by kernel_rfl)) (fun _ _ _ h => h) (Or.inl ⟨by rfl, ?_⟩) ?_ ?_
              rotate_left
              ·intro w'
               go_simp
               with_reducible rfl
              rotate_left
              ·simp only [Act.put, List.setIfInBounds_toArray, List.set_cons_zero, List.set_cons_succ, i64_w, i32_w]
               rfl
              refine pure_ (i := 10) (N := some 43) (v := ?_) (a' := ?_) head_Write.a9 rfl rfl (any_of HT_.out (by kernel_rfl)) (fun _ _ _ h => h) (Or.inl ⟨by rfl, ?_⟩) ?_ ?_
              rotate_left
              ·intro w'
               go_simp
               with_reducible rfl
              rotate_left
              ·simp only [Act.put, List.setIfInBounds_toArray, List.set_cons_zero, List.set_cons_succ, i64_w, i32_w]
               rfl
              refine take_ (i := 8) (N := some 41) (v := ?_) (a' := ?_) head_Write.a10 rfl rfl (take_ofW HT_.out HW_.out (by kernel_rfl)) (fun _ _ _ h => h) (Or.inl ⟨by rfl, ?_⟩) hHeld ?_ ?_
              rotate_left
              ·rintro w' ⟨s0, s1⟩
               go_simp
               with_reducible rfl
              rotate_left
              ·simp only [Act.put, List.setIfInBounds_toArray, List.set_cons_zero, List.set_cons_succ, i64_w, i32_w]
               rfl
              refine take_ (i := 11) (N := some 44) (v := ?_) (a' := ?_) head_Write.a11 rfl rfl (take_ofW HT_.out HW_.out (by kernel_rfl)) (fun _ _ _ h => h) (Or.inl ⟨by rfl, ?_⟩) hHeld ?_ ?_
              rotate_left
              ·rintro w' ⟨s0, s1⟩
               go_simp
               with_reducible rfl
              rotate_left
              ·simp only [Act.put, List.setIfInBounds_toArray, List.set_cons_zero, List.set_cons_succ, i64_w, i32_w]
               rfl
              refine one_ (i := 9) (N := some 42) head_Write.a12 rfl rfl (one_of HT_.out (by kernel_rfl)) (by decide) (fun K hK => ?_)
              refine goes_ Tryd.func41 (by kernel_rfl) rfl #[.string ((rd_T38 l0_4 x29_2).f0)] (by rfl) rfl rfl (by (try simp only [List.map_toArray, List.map_cons, List.map_nil]); first | done | rfl | (simp only [List.length_drop, List.length_take]; rfl)) ?_
              with_reducible refine (head_lower.calls ((rd_T38 l0_4 x29_2).f0) t375 _ A19.out).mono ?_
              rintro e w40 ⟨rfl, hb⟩
              refine ⟨_, rfl, ?_⟩
              have n0_ := Aside0.mk (blk_below (g := gb368) (o := .cells #[.string a0_0, .string a0_1, .string a0_2, .string a0_3, .slice (some ad372) l0_4.length c0_4] 25 (0, 0)) (by (with_reducible repeat (first | refine blk_drewN ?_ _ | refine blk_drew ?_ | refine blk_alloc ?_ _)); exact BK368.out) hb)
              have n1_ := Aside0.mk (blk_below (g := gb373) (o := .cells #[.string ((rd_T38 l0_4 x29_2).f0), .string ((rd_T38 l0_4 x29_2).f1)] 38 (0, 0)) (by (with_reducible repeat (first | refine blk_drewN ?_ _ | refine blk_drew ?_ | refine blk_alloc ?_ _)); exact BK373.out) hb)
              have n2_ := Aside0.mk (below_step (by repeat (first | (with_reducible first | exact HB.out | apply below_alloc | apply pw_below_drewN | apply below_drew1 | refine below_set ?_ GE368.out | refine below_set ?_ GE373.out) | exact HB.out)) hb)
              clear BK368
              clear BK373
              clear HB
              have BK368 := n0_
              have BK373 := n1_
              have HB := n2_
              clear n0_ n1_ n2_
              (try clear hb)
              (try clear hb2)
              (try clear hk)
              (try clear hi)
              refine hK.out _ _ ⟨(blk_cell BK373.out 0).trans rfl, (blk_cell BK373.out 1).trans rfl⟩ (fun hHeld => ?_)
              clear hK K
              refine norm_ (a' := ?_) ?_ ?_
              rotate_left
              ·show Act.put _ (some 42) _ = _
               simp only [Act.put, List.setIfInBounds_toArray, List.set_cons_zero, List.set_cons_succ, i64_w, i32_w]
               rfl
              refine pure_ (i := 12) (N := some 45) (v := ?_) (a' := ?_) head_Write.a13 rfl rfl (any_of HT_.out (by kernel_rfl)) (fun _ _ _ h => h) (Or.inl ⟨by rfl, ?_⟩) ?_ ?_
              rotate_left
              ·intro w'
               go_simp
               with_reducible rfl
              rotate_left
              ·simp only [Act.put, List.setIfInBounds_toArray, List.set_cons_zero, List.set_cons_succ, i64_w, i32_w]
               rfl
              refine pure_ (i := 13) (N := some 46) (v := ?_) (a' := ?_) head_Write.a14 rfl rfl (any_of HT_.out (by kernel_rfl)) (fun _ _ _ h => h) (Or.inl ⟨by rfl, ?_⟩) ?_ ?_
              rotate_left
              ·intro w'
               go_simp
               with_reducible rfl
              rotate_left
              ·simp only [Act.put, List.setIfInBounds_toArray, List.set_cons_zero, List.set_cons_succ, i64_w, i32_w]
               rfl
              refine pure_ (i := 14) (N := some 47) (v := ?_) (a' := ?_) head_Write.a15 rfl rfl (any_of HT_.out (by kernel_rfl)) (fun _ _ _ h => h) (Or.inl ⟨by rfl, ?_⟩) ?_ ?_
              rotate_left
              ·intro w'
               go_simp
               with_reducible rfl
              rotate_left
              ·simp only [Act.put, List.setIfInBounds_toArray, List.set_cons_zero, List.set_cons_succ, i64_w, i32_w]
               rfl
              refine pure_ (i := 15) (N := some 48) (v := ?_) (a' := ?_) head_Write.a16 rfl rfl (any_of HT_.out (by kernel_rfl)) (fun _ _ _ h => h) (Or.inl ⟨by rfl, ?_⟩) ?_ ?_
              rotate_left
              ·intro w'
               go_simp
               with_reducible rfl
              rotate_left
              ·simp only [Act.put, List.setIfInBounds_toArray, List.set_cons_zero, List.set_cons_succ, i64_w, i32_w]
               rfl
              refine take_ (i := 16) (N := some 49) (v := ?_) (a' := ?_) head_Write.a17 rfl rfl (take_ofW HT_.out HW_.out (by kernel_rfl)) (fun _ _ _ h => h) (Or.inl ⟨by rfl, ?_⟩) hHeld ?_ ?_
              rotate_left
              ·rintro w' ⟨s0, s1⟩
               go_simp
               with_reducible rfl
              rotate_left
              ·simp only [Act.put, List.setIfInBounds_toArray, List.set_cons_zero, List.set_cons_succ, i64_w, i32_w]
               rfl
              refine one_ (i := 17) (N := some 50) head_Write.a18 rfl rfl (one_of HT_.out (by kernel_rfl)) (by decide) (fun K hK => ?_)
              refine goes_ Tryd.func40 (by kernel_rfl) rfl #[.string ((rd_T38 l0_4 x29_2).f1)] (by rfl) rfl rfl (by (try simp only [List.map_toArray, List.map_cons, List.map_nil]); first | done | rfl | (simp only [List.length_drop, List.length_take]; rfl)) ?_
              with_reducible refine (head_value.calls k2 ((rd_T38 l0_4 x29_2).f1) true _ A21.out).mono ?_
              rintro e w' ⟨rfl, ⟨nd, rfl⟩⟩
              refine ⟨_, rfl, ?_⟩
              refine hK.out _ _ ⟨(blk_cell BK373.out 0).trans rfl, (blk_cell BK373.out 1).trans rfl⟩ (fun hHeld => ?_)
              clear hK K
              refine norm_ (a' := ?_) ?_ ?_
              rotate_left
              ·show Act.put _ (some 50) _ = _
               simp only [Act.put, List.setIfInBounds_toArray, List.set_cons_zero, List.set_cons_succ, i64_w, i32_w]
               rfl
              refine pure_ (i := 18) (N := some 51) (v := ?_) (a' := ?_) head_Write.a19 rfl rfl (any_of HT_.out (by kernel_rfl)) (fun _ _ _ h => h) (Or.inl ⟨by rfl, ?_⟩) ?_ ?_
              rotate_left
              ·intro w'
               go_simp
               with_reducible rfl
              rotate_left
              ·simp only [Act.put, List.setIfInBounds_toArray, List.set_cons_zero, List.set_cons_succ, i64_w, i32_w]
               rfl
              refine pure_ (i := 19) (N := some 4) (v := ?_) (a' := ?_) head_Write.a20 rfl rfl (any_of HT_.out (by kernel_rfl)) (fun _ _ _ h => h) (Or.inl ⟨by rfl, ?_⟩) ?_ ?_
              rotate_left
              ·intro w'
               go_simp
               with_reducible rfl
              rotate_left
              ·simp only [Act.put, List.setIfInBounds_toArray, List.set_cons_zero, List.set_cons_succ, i64_w, i32_w]
               rfl
              refine done_ (done_of HT_.out (by kernel_rfl)) ?_
              have hcz41_0 : w40.cell? ⟨gb373, 0, none⟩ = some (.string ((rd_T38 l0_4 x29_2).f0)) := (blk_cell BK373.out 0).trans rfl
              have hcz41_1 : w40.cell? ⟨gb373, 1, none⟩ = some (.string ((rd_T38 l0_4 x29_2).f1)) := (blk_cell BK373.out 1).trans rfl
              have hfz41_0 := blk_frozen BK373.out 0
              have hfz41_1 := blk_frozen BK373.out 1
              try go_wp2_with (first | ((with_reducible refine gate_callee (f := 18) rfl ?_); refine goesL_ (some 60) rfl rfl Tryd.func18 (by kernel_rfl) rfl #[.string ((rd_T38 l0_4 x29_2).f1)] rfl (by (try simp only [List.map_toArray, List.map_cons, List.map_nil]); first | done | rfl | (simp only [List.length_drop, List.length_take]; rfl)) ?_; (with_reducible refine (head_Host.calls k2 ((rd_T38 l0_4 x29_2).f1) t377 false _ ?side1 A23.out).mono ?_); (case side1 => exact ML.keep HML.out (by repeat (first | (with_reducible first | exact HB.out | apply below_alloc | apply pw_below_drewN | apply below_drew1 | refine below_set ?_ GE368.out | refine below_set ?_ GE373.out) | exact HB.out))); rintro e w42 ⟨rfl, hb⟩; refine ⟨_, rfl, ?_⟩; have n0_ := Aside0.mk (blk_below (g := gb368) (o := .cells #[.string a0_0, .string a0_1, .string a0_2, .string a0_3, .slice (some ad372) l0_4.length c0_4] 25 (0, 0)) (by (with_reducible repeat (first | refine blk_drewN ?_ _ | refine blk_drew ?_ | refine blk_alloc ?_ _)); exact BK368.out) hb); have n1_ := Aside0.mk (blk_below (g := gb373) (o := .cells #[.string ((rd_T38 l0_4 x29_2).f0), .string ((rd_T38 l0_4 x29_2).f1)] 38 (0, 0)) (by (with_reducible repeat (first | refine blk_drewN ?_ _ | refine blk_drew ?_ | refine blk_alloc ?_ _)); exact BK373.out) hb); have n2_ := Aside0.mk (below_step (by repeat (first | (with_reducible first | exact HB.out | apply below_alloc | apply pw_below_drewN | apply below_drew1 | refine below_set ?_ GE368.out | refine below_set ?_ GE373.out) | exact HB.out)) hb); clear BK368; clear BK373; clear HB; have BK368 := n0_; have BK373 := n1_; have HB := n2_; clear n0_ n1_ n2_; (try clear hb); (try clear hb2); (try clear hk); (try clear hi)))
              go_roundg k2
              case measure => have := HJ1.out; have := HK2.out; omega
              case rel => exact ⟨(false), (wrap64 (x5_2 + 1)), (wrap64 (x29_2 + 1)), (by first | rfl | (simp; done) | (simp [*]; done)), (by first | rfl | (simp; done) | (simp [*]; done)), (by first | rfl | (simp; done) | (simp [*]; done)), H', ⟨by have := HJ1.out; have := HK2.out; omega⟩, ⟨by (with_reducible repeat (first | refine blk_drewN ?_ _ | refine blk_drew ?_ | refine blk_alloc ?_ _)); exact BK368.out⟩, ⟨by repeat (first | (with_reducible first | exact HB.out | apply below_alloc | apply pw_below_drewN | apply below_drew1 | refine below_set ?_ GE368.out | refine below_set ?_ GE373.out) | exact HB.out)⟩⟩
            ·replace c24 := Bool.eq_false_iff.mpr c24
             subst c24
             have H1 : (head_Write.l0 k2 false (wrap64 (x5_2 + 1)) l0_4 (l0_4.length : Int) (wrap64 (x29_2 + 1)) a0_0 a0_1 a0_2 a0_3 l0_4) = some (r1, r2) := by rw [if_neg (show ¬ (false = true) by decide)] at H; exact H
             clear H
             have H := H1
             clear H1
             have H' := Aside0.mk H
             clear H
             have p372 : 0 ≤ (x29_2 : Int) := of_decide_eq_true (by first | (with_reducible assumption) | assumption)
             have q372 : x29_2 < (l0_4.length : Int) := of_decide_eq_true (by first | (with_reducible assumption) | assumption)
             obtain ⟨ad372, e372, hx372_0, hx372_1⟩ := at_T38 HR0_4.out x29_2 p372 q372
             cases e372
             replace hx372_0 := (HB.out.cell (World.block_lt_of_cell? w _ hx372_0)).trans hx372_0
             replace hx372_1 := (HB.out.cell (World.block_lt_of_cell? w _ hx372_1)).trans hx372_1
             replace p372 := eq_true p372
             replace q372 := eq_true q372
             try go_wp2_with (first | ((with_reducible refine gate_dst (N := 7) rfl ?_); (try (refine gate_guard (by rfl) ?_; dsimp only)); refine box_event ?hg (N := 7) ?hd (cs := #[.string (⟨#[]⟩ : ByteArray), .string (⟨#[]⟩ : ByteArray)]) (t := 38) ?hr ?_; (case hd => rfl); (case hg => rfl); (case hr => first | (go_simp; done) | (go_simp; rfl)); intro gb373 hg w43 hbox hb; have n0_ := Aside0.mk (blk_below (g := gb368) (o := .cells #[.string a0_0, .string a0_1, .string a0_2, .string a0_3, .slice (some ad372) l0_4.length c0_4] 25 (0, 0)) (by (with_reducible repeat (first | refine blk_drewN ?_ _ | refine blk_drew ?_ | refine blk_alloc ?_ _)); exact BK368.out) hb); have n1_ := Aside0.mk (below_step (by repeat (first | (with_reducible first | exact HB.out | apply below_alloc | apply pw_below_drewN | apply below_drew1 | refine below_set ?_ GE368.out) | exact HB.out)) hb); have n2_ := Aside0.mk (hbox); have n3_ := Aside0.mk ((by rw [hg]; exact (below_size (by repeat (first | (with_reducible first | exact HB.out | apply below_alloc | apply pw_below_drewN | apply below_drew1 | refine below_set ?_ GE368.out) | exact HB.out))) : w.heap.size ≤ gb373)); have n4_ := Aside0.mk ((by rw [hg]; exact (below_size (by repeat (first | (with_reducible first | exact HB.out | apply below_alloc | apply pw_below_drewN | apply below_drew1 | refine below_set ?_ GE368.out) | exact HB.out))) : w.heap.size ≤ gb373)); have n5_ := Aside0.mk ((by rw [hg]; exact Nat.ne_of_lt (blk_lt (g := gb368) (o := .cells #[.string a0_0, .string a0_1, .string a0_2, .string a0_3, .slice (some ad372) l0_4.length c0_4] 25 (0, 0)) (by (with_reducible repeat (first | refine blk_drewN ?_ _ | refine blk_drew ?_ | refine blk_alloc ?_ _)); exact BK368.out)) : gb368 ≠ gb373)); have n6_ := Aside0.mk ((by rw [hg]; exact Nat.ne_of_gt (blk_lt (g := gb368) (o := .cells #[.string a0_0, .string a0_1, .string a0_2, .string a0_3, .slice (some ad372) l0_4.length c0_4] 25 (0, 0)) (by (with_reducible repeat (first | refine blk_drewN ?_ _ | refine blk_drew ?_ | refine blk_alloc ?_ _)); exact BK368.out)) : gb373 ≠ gb368)); clear BK368; clear HB; have BK368 := n0_; have HB := n1_; have BK373 := n2_; have GW373 := n3_; have GE373 := n4_; have NB368_373 := n5_; have NB373_368 := n6_; clear n0_ n1_ n2_ n3_ n4_ n5_ n6_; clear hb hbox hg; have hnb44 := NB373_368.out; have hnc44 := NB368_373.out; have hcz45_0 : w43.cell? ⟨gb373, 0, none⟩ = some (.string (⟨#[]⟩ : ByteArray)) := (blk_cell BK373.out 0).trans rfl; have hcz45_1 : w43.cell? ⟨gb373, 1, none⟩ = some (.string (⟨#[]⟩ : ByteArray)) := (blk_cell BK373.out 1).trans rfl; have hfz45_0 := blk_frozen BK373.out 0; have hfz45_1 := blk_frozen BK373.out 1))
             have n0_ : Aside0 (((w43.setCell ⟨gb373, 0, none⟩ (.string ((rd_T38 l0_4 x29_2).f0))).setCell ⟨gb373, 1, none⟩ (.string ((rd_T38 l0_4 x29_2).f1))).heap[gb368]? = some (.cells #[.string a0_0, .string a0_1, .string a0_2, .string a0_3, .slice (some ad372) l0_4.length c0_4] 25 (0, 0))) := ⟨by (with_reducible repeat (first | refine blk_drewN ?_ _ | refine blk_drew ?_ | refine blk_alloc ?_ _)); refine blk_far ?_ NB368_373.out _; (with_reducible repeat (first | refine blk_drewN ?_ _ | refine blk_drew ?_ | refine blk_alloc ?_ _)); refine blk_far ?_ NB368_373.out _; (with_reducible repeat (first | refine blk_drewN ?_ _ | refine blk_drew ?_ | refine blk_alloc ?_ _)); exact BK368.out⟩
             have n1_ : Aside0 (((w43.setCell ⟨gb373, 0, none⟩ (.string ((rd_T38 l0_4 x29_2).f0))).setCell ⟨gb373, 1, none⟩ (.string ((rd_T38 l0_4 x29_2).f1))).heap[gb373]? = some (.cells #[.string ((rd_T38 l0_4 x29_2).f0), .string ((rd_T38 l0_4 x29_2).f1)] 38 (0, 0))) := ⟨by (with_reducible repeat (first | refine blk_drewN ?_ _ | refine blk_drew ?_ | refine blk_alloc ?_ _)); refine blk_put (cs := #[.string ((rd_T38 l0_4 x29_2).f0), .string (⟨#[]⟩ : ByteArray)]) ?_ 1 _ rfl; (with_reducible repeat (first | refine blk_drewN ?_ _ | refine blk_drew ?_ | refine blk_alloc ?_ _)); refine blk_put (cs := #[.string (⟨#[]⟩ : ByteArray), .string (⟨#[]⟩ : ByteArray)]) ?_ 0 _ rfl; (with_reducible repeat (first | refine blk_drewN ?_ _ | refine blk_drew ?_ | refine blk_alloc ?_ _)); exact BK373.out⟩
             have n2_ : Aside0 (Below w.heap.size w ((w43.setCell ⟨gb373, 0, none⟩ (.string ((rd_T38 l0_4 x29_2).f0))).setCell ⟨gb373, 1, none⟩ (.string ((rd_T38 l0_4 x29_2).f1)))) := ⟨by repeat (first | (with_reducible first | exact HB.out | apply below_alloc | apply pw_below_drewN | apply below_drew1 | refine below_set ?_ GE368.out | refine below_set ?_ GE373.out) | exact HB.out)⟩
             (try clear BK368)
             (try clear BK373)
             (try clear HB)
             generalize ((w43.setCell ⟨gb373, 0, none⟩ (.string ((rd_T38 l0_4 x29_2).f0))).setCell ⟨gb373, 1, none⟩ (.string ((rd_T38 l0_4 x29_2).f1))) = w46 at n0_ n1_ n2_ ⊢
             have BK368 := n0_
             have BK373 := n1_
             have HB := n2_
             clear n0_ n1_ n2_
             have n0_ := Aside0.mk (blk_drew BK368.out)
             have n1_ := Aside0.mk (blk_drew BK373.out)
             have n2_ := Aside0.mk (below_drew1 HB.out)
             clear BK368
             clear BK373
             clear HB
             have BK368 := n0_
             have BK373 := n1_
             have HB := n2_
             clear n0_ n1_ n2_
             refine start_ (n := 20) (S := fun w' => w'.cell? ⟨gb373, 0, none⟩ = some (.string ((rd_T38 l0_4 x29_2).f0)) ∧ w'.cell? ⟨gb373, 1, none⟩ = some (.string ((rd_T38 l0_4 x29_2).f1))) (ds := []) head_Write.a0 (by kernel_rfl) rfl rfl ⟨(blk_cell BK373.out 0).trans rfl, (blk_cell BK373.out 1).trans rfl⟩ (fun hHeld => ?_); refine with_tabW head_Write.tab6 head_Write.bits6 (fun HT_ HW_ => ?_)
             generalize w46.drew = w47 at BK368 BK373 HB hHeld ⊢
             refine pure_ (i := 0) (N := some 33) (v := ?_) (a' := ?_) head_Write.a1 rfl rfl (any_of HT_.out (by kernel_rfl)) (fun _ _ _ h => h) (Or.inl ⟨by rfl, ?_⟩) ?_ ?_
             rotate_left
             ·intro w'
              go_simp
              with_reducible rfl
             rotate_left
             ·simp only [Act.put, List.setIfInBounds_toArray, List.set_cons_zero, List.set_cons_succ, i64_w, i32_w]
              rfl
             refine pure_ (i := 1) (N := some 34) (v := ?_) (a' := ?_) head_Write.a2 rfl rfl (any_of HT_.out (by kernel_rfl)) (fun _ _ _ h => h) (Or.inl ⟨by rfl, ?_⟩) ?_ ?_
             rotate_left
             ·intro w'
              go_simp
              with_reducible rfl
             rotate_left
             ·simp only [Act.put, List.setIfInBounds_toArray, List.set_cons_zero, List.set_cons_succ, i64_w, i32_w]
              rfl
             refine pure_ (i := 2) (N := some 35) (v := ?_) (a' := ?_) head_Write.a3 rfl rfl (any_of HT_.out (by kernel_rfl)) (fun _ _ _ h => h) (Or.inl ⟨by rfl, ?_⟩) ?_ ?_
             rotate_left
             ·intro w'
              go_simp
              with_reducible rfl
             rotate_left
             ·simp only [Act.put, List.setIfInBounds_toArray, List.set_cons_zero, List.set_cons_succ, i64_w, i32_w]
              rfl
             refine take_ (i := 3) (N := some 36) (v := ?_) (a' := ?_) head_Write.a4 rfl rfl (take_ofW HT_.out HW_.out (by kernel_rfl)) (fun _ _ _ h => h) (Or.inl ⟨by rfl, ?_⟩) hHeld ?_ ?_
             rotate_left
             ·rintro w' ⟨s0, s1⟩
              go_simp
              with_reducible rfl
             rotate_left
             ·simp only [Act.put, List.setIfInBounds_toArray, List.set_cons_zero, List.set_cons_succ, i64_w, i32_w]
              rfl
             refine one_ (i := 4) (N := some 37) head_Write.a5 rfl rfl (one_of HT_.out (by kernel_rfl)) (by decide) (fun K hK => ?_)
             refine goes_ Tryd.func38 (by kernel_rfl) rfl #[.string ((rd_T38 l0_4 x29_2).f0)] (by rfl) rfl rfl (by (try simp only [List.map_toArray, List.map_cons, List.map_nil]); first | done | rfl | (simp only [List.length_drop, List.length_take]; rfl)) ?_
             with_reducible refine (head_token.calls k2 ((rd_T38 l0_4 x29_2).f0) true _ A17.out).mono ?_
             rintro e w' ⟨rfl, ⟨nd, rfl⟩⟩
             refine ⟨_, rfl, ?_⟩
             refine hK.out _ _ ⟨(blk_cell BK373.out 0).trans rfl, (blk_cell BK373.out 1).trans rfl⟩ (fun hHeld => ?_)
             clear hK K
             refine norm_ (a' := ?_) ?_ ?_
             rotate_left
             ·show Act.put _ (some 37) _ = _
              simp only [Act.put, List.setIfInBounds_toArray, List.set_cons_zero, List.set_cons_succ, i64_w, i32_w]
              rfl
             refine pure_ (i := 5) (N := some 38) (v := ?_) (a' := ?_) head_Write.a6 rfl rfl (any_of HT_.out (by kernel_rfl)) (fun _ _ _ h => h) (Or.inl ⟨by rfl, ?_⟩) ?_ ?_
             rotate_left
             ·intro w'
              go_simp
              with_reducible rfl
             rotate_left
             ·simp only [Act.put, List.setIfInBounds_toArray, List.set_cons_zero, List.set_cons_succ, i64_w, i32_w]
              rfl
             refine pure_ (i := 6) (N := some 39) (v := ?_) (a' := ?_) head_Write.a7 rfl rfl (any_of HT_.out (by kernel_rfl)) (fun _ _ _ h => h) (Or.inl ⟨by rfl, ?_⟩) ?_ ?_
             rotate_left
             ·intro w'
              go_simp
              with_reducible rfl
             rotate_left
             ·simp only [Act.put, List.setIfInBounds_toArray, List.set_cons_zero, List.set_cons_succ, i64_w, i32_w]
              rfl
             refine pure_ (i := 7) (N := some 40) (v := ?_) (a' := ?_) head_Write.a8 rfl rfl (any_of HT_.out (by kernel_rfl)) (fun _ _ _ h => h) (Or.inl ⟨by rfl, ?_⟩) ?_ ?_
             rotate_left
             ·intro w'
              go_simp
              with_reducible rfl
             rotate_left
             ·simp only [Act.put, List.setIfInBounds_toArray, List.set_cons_zero, List.set_cons_succ, i64_w, i32_w]
              rfl
             refine pure_ (i := 10) (N := some 43) (v := ?_) (a' := ?_) head_Write.a9 rfl rfl (any_of HT_.out (by kernel_rfl)) (fun _ _ _ h => h) (Or.inl ⟨by rfl, ?_⟩) ?_ ?_
             rotate_left
             ·intro w'
              go_simp
              with_reducible rfl
             rotate_left
             ·simp only [Act.put, List.setIfInBounds_toArray, List.set_cons_zero, List.set_cons_succ, i64_w, i32_w]
              rfl
             refine take_ (i := 8) (N := some 41) (v := ?_) (a' := ?_) head_Write.a10 rfl rfl (take_ofW HT_.out HW_.out (by kernel_rfl)) (fun _ _ _ h => h) (Or.inl ⟨by rfl, ?_⟩) hHeld ?_ ?_
             rotate_left
             ·rintro w' ⟨s0, s1⟩
              go_simp
              with_reducible rfl
             rotate_left
             ·simp only [Act.put, List.setIfInBounds_toArray, List.set_cons_zero, List.set_cons_succ, i64_w, i32_w]
              rfl
             refine take_ (i := 11) (N := some 44) (v := ?_) (a' := ?_) head_Write.a11 rfl rfl (take_ofW HT_.out HW_.out (by kernel_rfl)) (fun _ _ _ h => h) (Or.inl ⟨by rfl, ?_⟩) hHeld ?_ ?_
             rotate_left
             ·rintro w' ⟨s0, s1⟩
              go_simp
              with_reducible rfl
             rotate_left
             ·simp only [Act.put, List.setIfInBounds_toArray, List.set_cons_zero, List.set_cons_succ, i64_w, i32_w]
              rfl
             refine one_ (i := 9) (N := some 42) head_Write.a12 rfl rfl (one_of HT_.out (by kernel_rfl)) (by decide) (fun K hK => ?_)
             refine goes_ Tryd.func41 (by kernel_rfl) rfl #[.string ((rd_T38 l0_4 x29_2).f0)] (by rfl) rfl rfl (by (try simp only [List.map_toArray, List.map_cons, List.map_nil]); first | done | rfl | (simp only [List.length_drop, List.length_take]; rfl)) ?_
             with_reducible refine (head_lower.calls ((rd_T38 l0_4 x29_2).f0) t375 _ A19.out).mono ?_
             rintro e w48 ⟨rfl, hb⟩
             refine ⟨_, rfl, ?_⟩
             have n0_ := Aside0.mk (blk_below (g := gb368) (o := .cells #[.string a0_0, .string a0_1, .string a0_2, .string a0_3, .slice (some ad372) l0_4.length c0_4] 25 (0, 0)) (by (with_reducible repeat (first | refine blk_drewN ?_ _ | refine blk_drew ?_ | refine blk_alloc ?_ _)); exact BK368.out) hb)
             have n1_ := Aside0.mk (blk_below (g := gb373) (o := .cells #[.string ((rd_T38 l0_4 x29_2).f0), .string ((rd_T38 l0_4 x29_2).f1)] 38 (0, 0)) (by (with_reducible repeat (first | refine blk_drewN ?_ _ | refine blk_drew ?_ | refine blk_alloc ?_ _)); exact BK373.out) hb)
             have n2_ := Aside0.mk (below_step (by repeat (first | (with_reducible first | exact HB.out | apply below_alloc | apply pw_below_drewN | apply below_drew1 | refine below_set ?_ GE368.out | refine below_set ?_ GE373.out) | exact HB.out)) hb)
             clear BK368
             clear BK373
             clear HB
             have BK368 := n0_
             have BK373 := n1_
             have HB := n2_
             clear n0_ n1_ n2_
             (try clear hb)
             (try clear hb2)
             (try clear hk)
             (try clear hi)
             refine hK.out _ _ ⟨(blk_cell BK373.out 0).trans rfl, (blk_cell BK373.out 1).trans rfl⟩ (fun hHeld => ?_)
             clear hK K
             refine norm_ (a' := ?_) ?_ ?_
             rotate_left
             ·show Act.put _ (some 42) _ = _
              simp only [Act.put, List.setIfInBounds_toArray, List.set_cons_zero, List.set_cons_succ, i64_w, i32_w]
              rfl
             refine pure_ (i := 12) (N := some 45) (v := ?_) (a' := ?_) head_Write.a13 rfl rfl (any_of HT_.out (by kernel_rfl)) (fun _ _ _ h => h) (Or.inl ⟨by rfl, ?_⟩) ?_ ?_
             rotate_left
             ·intro w'
              go_simp
              with_reducible rfl
             rotate_left
             ·simp only [Act.put, List.setIfInBounds_toArray, List.set_cons_zero, List.set_cons_succ, i64_w, i32_w]
              rfl
             refine pure_ (i := 13) (N := some 46) (v := ?_) (a' := ?_) head_Write.a14 rfl rfl (any_of HT_.out (by kernel_rfl)) (fun _ _ _ h => h) (Or.inl ⟨by rfl, ?_⟩) ?_ ?_
             rotate_left
             ·intro w'
              go_simp
              with_reducible rfl
             rotate_left
             ·simp only [Act.put, List.setIfInBounds_toArray, List.set_cons_zero, List.set_cons_succ, i64_w, i32_w]
              rfl
             refine pure_ (i := 14) (N := some 47) (v := ?_) (a' := ?_) head_Write.a15 rfl rfl (any_of HT_.out (by kernel_rfl)) (fun _ _ _ h => h) (Or.inl ⟨by rfl, ?_⟩) ?_ ?_
             rotate_left
             ·intro w'
              go_simp
              with_reducible rfl
             rotate_left
             ·simp only [Act.put, List.setIfInBounds_toArray, List.set_cons_zero, List.set_cons_succ, i64_w, i32_w]
              rfl
             refine pure_ (i := 15) (N := some 48) (v := ?_) (a' := ?_) head_Write.a16 rfl rfl (any_of HT_.out (by kernel_rfl)) (fun _ _ _ h => h) (Or.inl ⟨by rfl, ?_⟩) ?_ ?_
             rotate_left
             ·intro w'
              go_simp
              with_reducible rfl
             rotate_left
             ·simp only [Act.put, List.setIfInBounds_toArray, List.set_cons_zero, List.set_cons_succ, i64_w, i32_w]
              rfl
             refine take_ (i := 16) (N := some 49) (v := ?_) (a' := ?_) head_Write.a17 rfl rfl (take_ofW HT_.out HW_.out (by kernel_rfl)) (fun _ _ _ h => h) (Or.inl ⟨by rfl, ?_⟩) hHeld ?_ ?_
             rotate_left
             ·rintro w' ⟨s0, s1⟩
              go_simp
              with_reducible rfl
             rotate_left
             ·simp only [Act.put, List.setIfInBounds_toArray, List.set_cons_zero, List.set_cons_succ, i64_w, i32_w]
              rfl
             refine one_ (i := 17) (N := some 50) head_Write.a18 rfl rfl (one_of HT_.out (by kernel_rfl)) (by decide) (fun K hK => ?_)
             refine goes_ Tryd.func40 (by kernel_rfl) rfl #[.string ((rd_T38 l0_4 x29_2).f1)] (by rfl) rfl rfl (by (try simp only [List.map_toArray, List.map_cons, List.map_nil]); first | done | rfl | (simp only [List.length_drop, List.length_take]; rfl)) ?_
             with_reducible refine (head_value.calls k2 ((rd_T38 l0_4 x29_2).f1) false _ A21.out).mono ?_
             rintro e w' ⟨rfl, ⟨nd, rfl⟩⟩
             refine ⟨_, rfl, ?_⟩
             refine hK.out _ _ ⟨(blk_cell BK373.out 0).trans rfl, (blk_cell BK373.out 1).trans rfl⟩ (fun hHeld => ?_)
             clear hK K
             refine norm_ (a' := ?_) ?_ ?_
             rotate_left
             ·show Act.put _ (some 50) _ = _
              simp only [Act.put, List.setIfInBounds_toArray, List.set_cons_zero, List.set_cons_succ, i64_w, i32_w]
              rfl
             refine pure_ (i := 18) (N := some 51) (v := ?_) (a' := ?_) head_Write.a19 rfl rfl (any_of HT_.out (by kernel_rfl)) (fun _ _ _ h => h) (Or.inl ⟨by rfl, ?_⟩) ?_ ?_
             rotate_left
             ·intro w'
              go_simp
              with_reducible rfl
             rotate_left
             ·simp only [Act.put, List.setIfInBounds_toArray, List.set_cons_zero, List.set_cons_succ, i64_w, i32_w]
              rfl
             refine pure_ (i := 19) (N := some 4) (v := ?_) (a' := ?_) head_Write.a20 rfl rfl (any_of HT_.out (by kernel_rfl)) (fun _ _ _ h => h) (Or.inl ⟨by rfl, ?_⟩) ?_ ?_
             rotate_left
             ·intro w'
              go_simp
              with_reducible rfl
             rotate_left
             ·simp only [Act.put, List.setIfInBounds_toArray, List.set_cons_zero, List.set_cons_succ, i64_w, i32_w]
              rfl
             refine done_ (done_of HT_.out (by kernel_rfl)) ?_
             have hcz49_0 : w48.cell? ⟨gb373, 0, none⟩ = some (.string ((rd_T38 l0_4 x29_2).f0)) := (blk_cell BK373.out 0).trans rfl
             have hcz49_1 : w48.cell? ⟨gb373, 1, none⟩ = some (.string ((rd_T38 l0_4 x29_2).f1)) := (blk_cell BK373.out 1).trans rfl
             have hfz49_0 := blk_frozen BK373.out 0
             have hfz49_1 := blk_frozen BK373.out 1
             try go_wp2_with (first | ((with_reducible refine gate_callee (f := 18) rfl ?_); refine goesL_ (some 60) rfl rfl Tryd.func18 (by kernel_rfl) rfl #[.string ((rd_T38 l0_4 x29_2).f1)] rfl (by (try simp only [List.map_toArray, List.map_cons, List.map_nil]); first | done | rfl | (simp only [List.length_drop, List.length_take]; rfl)) ?_; (with_reducible refine (head_Host.calls k2 ((rd_T38 l0_4 x29_2).f1) t377 t378 _ ?side1 A23.out).mono ?_); (case side1 => exact ML.keep HML.out (by repeat (first | (with_reducible first | exact HB.out | apply below_alloc | apply pw_below_drewN | apply below_drew1 | refine below_set ?_ GE368.out | refine below_set ?_ GE373.out) | exact HB.out))); rintro e w50 ⟨rfl, hb⟩; refine ⟨_, rfl, ?_⟩; have n0_ := Aside0.mk (blk_below (g := gb368) (o := .cells #[.string a0_0, .string a0_1, .string a0_2, .string a0_3, .slice (some ad372) l0_4.length c0_4] 25 (0, 0)) (by (with_reducible repeat (first | refine blk_drewN ?_ _ | refine blk_drew ?_ | refine blk_alloc ?_ _)); exact BK368.out) hb); have n1_ := Aside0.mk (blk_below (g := gb373) (o := .cells #[.string ((rd_T38 l0_4 x29_2).f0), .string ((rd_T38 l0_4 x29_2).f1)] 38 (0, 0)) (by (with_reducible repeat (first | refine blk_drewN ?_ _ | refine blk_drew ?_ | refine blk_alloc ?_ _)); exact BK373.out) hb); have n2_ := Aside0.mk (below_step (by repeat (first | (with_reducible first | exact HB.out | apply below_alloc | apply pw_below_drewN | apply below_drew1 | refine below_set ?_ GE368.out | refine below_set ?_ GE373.out) | exact HB.out)) hb); clear BK368; clear BK373; clear HB; have BK368 := n0_; have BK373 := n1_; have HB := n2_; clear n0_ n1_ n2_; (try clear hb); (try clear hb2); (try clear hk); (try clear hi)))
             go_roundg k2
             case measure => have := HJ1.out; have := HK2.out; omega
             case rel => exact ⟨(false), (wrap64 (x5_2 + 1)), (wrap64 (x29_2 + 1)), (by first | rfl | (simp; done) | (simp [*]; done)), (by first | rfl | (simp; done) | (simp [*]; done)), (by first | rfl | (simp; done) | (simp [*]; done)), H', ⟨by have := HJ1.out; have := HK2.out; omega⟩, ⟨by (with_reducible repeat (first | refine blk_drewN ?_ _ | refine blk_drew ?_ | refine blk_alloc ?_ _)); exact BK368.out⟩, ⟨by repeat (first | (with_reducible first | exact HB.out | apply below_alloc | apply pw_below_drewN | apply below_drew1 | refine below_set ?_ GE368.out | refine below_set ?_ GE373.out) | exact HB.out)⟩⟩
           ·rw [if_neg c22] at H
            have c22b0 : (((rd_T38 l0_4 x29_2).f0).toList == ([104, 111, 115, 116] : List UInt8)) = false := beq_eq_false_iff_ne.mpr c22
            have c22b1 : (((rd_T38 l0_4 x29_2).f0).toList != ([104, 111, 115, 116] : List UInt8)) = true := bne_iff_ne.mpr c22
            have H' := Aside0.mk H
            clear H
            have p372 : 0 ≤ (x29_2 : Int) := of_decide_eq_true (by first | (with_reducible assumption) | assumption)
            have q372 : x29_2 < (l0_4.length : Int) := of_decide_eq_true (by first | (with_reducible assumption) | assumption)
            obtain ⟨ad372, e372, hx372_0, hx372_1⟩ := at_T38 HR0_4.out x29_2 p372 q372
            cases e372
            replace hx372_0 := (HB.out.cell (World.block_lt_of_cell? w _ hx372_0)).trans hx372_0
            replace hx372_1 := (HB.out.cell (World.block_lt_of_cell? w _ hx372_1)).trans hx372_1
            replace p372 := eq_true p372
            replace q372 := eq_true q372
            try go_wp2_with (first | ((with_reducible refine gate_dst (N := 7) rfl ?_); (try (refine gate_guard (by rfl) ?_; dsimp only)); refine box_event ?hg (N := 7) ?hd (cs := #[.string (⟨#[]⟩ : ByteArray), .string (⟨#[]⟩ : ByteArray)]) (t := 38) ?hr ?_; (case hd => rfl); (case hg => rfl); (case hr => first | (go_simp; done) | (go_simp; rfl)); intro gb373 hg w51 hbox hb; have n0_ := Aside0.mk (blk_below (g := gb368) (o := .cells #[.string a0_0, .string a0_1, .string a0_2, .string a0_3, .slice (some ad372) l0_4.length c0_4] 25 (0, 0)) (by (with_reducible repeat (first | refine blk_drewN ?_ _ | refine blk_drew ?_ | refine blk_alloc ?_ _)); exact BK368.out) hb); have n1_ := Aside0.mk (below_step (by repeat (first | (with_reducible first | exact HB.out | apply below_alloc | apply pw_below_drewN | apply below_drew1 | refine below_set ?_ GE368.out) | exact HB.out)) hb); have n2_ := Aside0.mk (hbox); have n3_ := Aside0.mk ((by rw [hg]; exact (below_size (by repeat (first | (with_reducible first | exact HB.out | apply below_alloc | apply pw_below_drewN | apply below_drew1 | refine below_set ?_ GE368.out) | exact HB.out))) : w.heap.size ≤ gb373)); have n4_ := Aside0.mk ((by rw [hg]; exact (below_size (by repeat (first | (with_reducible first | exact HB.out | apply below_alloc | apply pw_below_drewN | apply below_drew1 | refine below_set ?_ GE368.out) | exact HB.out))) : w.heap.size ≤ gb373)); have n5_ := Aside0.mk ((by rw [hg]; exact Nat.ne_of_lt (blk_lt (g := gb368) (o := .cells #[.string a0_0, .string a0_1, .string a0_2, .string a0_3, .slice (some ad372) l0_4.length c0_4] 25 (0, 0)) (by (with_reducible repeat (first | refine blk_drewN ?_ _ | refine blk_drew ?_ | refine blk_alloc ?_ _)); exact BK368.out)) : gb368 ≠ gb373)); have n6_ := Aside0.mk ((by rw [hg]; exact Nat.ne_of_gt (blk_lt (g := gb368) (o := .cells #[.string a0_0, .string a0_1, .string a0_2, .string a0_3, .slice (some ad372) l0_4.length c0_4] 25 (0, 0)) (by (with_reducible repeat (first | refine blk_drewN ?_ _ | refine blk_drew ?_ | refine blk_alloc ?_ _)); exact BK368.out)) : gb373 ≠ gb368)); clear BK368; clear HB; have BK368 := n0_; have HB := n1_; have BK373 := n2_; have GW373 := n3_; have GE373 := n4_; have NB368_373 := n5_; have NB373_368 := n6_; clear n0_ n1_ n2_ n3_ n4_ n5_ n6_; clear hb hbox hg; have hnb52 := NB373_368.out; have hnc52 := NB368_373.out; have hcz53_0 : w51.cell? ⟨gb373, 0, none⟩ = some (.string (⟨#[]⟩ : ByteArray)) := (blk_cell BK373.out 0).trans rfl; have hcz53_1 : w51.cell? ⟨gb373, 1, none⟩ = some (.string (⟨#[]⟩ : ByteArray)) := (blk_cell BK373.out 1).trans rfl; have hfz53_0 := blk_frozen BK373.out 0; have hfz53_1 := blk_frozen BK373.out 1))
            have n0_ : Aside0 (((w51.setCell ⟨gb373, 0, none⟩ (.string ((rd_T38 l0_4 x29_2).f0))).setCell ⟨gb373, 1, none⟩ (.string ((rd_T38 l0_4 x29_2).f1))).heap[gb368]? = some (.cells #[.string a0_0, .string a0_1, .string a0_2, .string a0_3, .slice (some ad372) l0_4.length c0_4] 25 (0, 0))) := ⟨by (with_reducible repeat (first | refine blk_drewN ?_ _ | refine blk_drew ?_ | refine blk_alloc ?_ _)); refine blk_far ?_ NB368_373.out _; (with_reducible repeat (first | refine blk_drewN ?_ _ | refine blk_drew ?_ | refine blk_alloc ?_ _)); refine blk_far ?_ NB368_373.out _; (with_reducible repeat (first | refine blk_drewN ?_ _ | refine blk_drew ?_ | refine blk_alloc ?_ _)); exact BK368.out⟩
            have n1_ : Aside0 (((w51.setCell ⟨gb373, 0, none⟩ (.string ((rd_T38 l0_4 x29_2).f0))).setCell ⟨gb373, 1, none⟩ (.string ((rd_T38 l0_4 x29_2).f1))).heap[gb373]? = some (.cells #[.string ((rd_T38 l0_4 x29_2).f0), .string ((rd_T38 l0_4 x29_2).f1)] 38 (0, 0))) := ⟨by (with_reducible repeat (first | refine blk_drewN ?_ _ | refine blk_drew ?_ | refine blk_alloc ?_ _)); refine blk_put (cs := #[.string ((rd_T38 l0_4 x29_2).f0), .string (⟨#[]⟩ : ByteArray)]) ?_ 1 _ rfl; (with_reducible repeat (first | refine blk_drewN ?_ _ | refine blk_drew ?_ | refine blk_alloc ?_ _)); refine blk_put (cs := #[.string (⟨#[]⟩ : ByteArray), .string (⟨#[]⟩ : ByteArray)]) ?_ 0 _ rfl; (with_reducible repeat (first | refine blk_drewN ?_ _ | refine blk_drew ?_ | refine blk_alloc ?_ _)); exact BK373.out⟩
            have n2_ : Aside0 (Below w.heap.size w ((w51.setCell ⟨gb373, 0, none⟩ (.string ((rd_T38 l0_4 x29_2).f0))).setCell ⟨gb373, 1, none⟩ (.string ((rd_T38 l0_4 x29_2).f1)))) := ⟨by repeat (first | (with_reducible first | exact HB.out | apply below_alloc | apply pw_below_drewN | apply below_drew1 | refine below_set ?_ GE368.out | refine below_set ?_ GE373.out) | exact HB.out)⟩
            (try clear BK368)
            (try clear BK373)
            (try clear HB)
            generalize ((w51.setCell ⟨gb373, 0, none⟩ (.string ((rd_T38 l0_4 x29_2).f0))).setCell ⟨gb373, 1, none⟩ (.string ((rd_T38 l0_4 x29_2).f1))) = w54 at n0_ n1_ n2_ ⊢
            have BK368 := n0_
            have BK373 := n1_
            have HB := n2_
            clear n0_ n1_ n2_
            have n0_ := Aside0.mk (blk_drew BK368.out)
            have n1_ := Aside0.mk (blk_drew BK373.out)
            have n2_ := Aside0.mk (below_drew1 HB.out)
            clear BK368
            clear BK373
            clear HB
            have BK368 := n0_
            have BK373 := n1_
            have HB := n2_
            clear n0_ n1_ n2_
            refine start_ (n := 20) (S := fun w' => w'.cell? ⟨gb373, 0, none⟩ = some (.string ((rd_T38 l0_4 x29_2).f0)) ∧ w'.cell? ⟨gb373, 1, none⟩ = some (.string ((rd_T38 l0_4 x29_2).f1))) (ds := []) head_Write.a0 (by kernel_rfl) rfl rfl ⟨(blk_cell BK373.out 0).trans rfl, (blk_cell BK373.out 1).trans rfl⟩ (fun hHeld => ?_); refine with_tabW head_Write.tab6 head_Write.bits6 (fun HT_ HW_ => ?_)
            generalize w54.drew = w55 at BK368 BK373 HB hHeld ⊢
            refine pure_ (i := 0) (N := some 33) (v := ?_) (a' := ?_) head_Write.a1 rfl rfl (any_of HT_.out (by kernel_rfl)) (fun _ _ _ h => h) (Or.inl ⟨by rfl, ?_⟩) ?_ ?_
            rotate_left
            ·intro w'
             go_simp
             with_reducible rfl
            rotate_left
            ·simp only [Act.put, List.setIfInBounds_toArray, List.set_cons_zero, List.set_cons_succ, i64_w, i32_w]
             rfl
            refine pure_ (i := 1) (N := some 34) (v := ?_) (a' := ?_) head_Write.a2 rfl rfl (any_of HT_.out (by kernel_rfl)) (fun _ _ _ h => h) (Or.inl ⟨by rfl, ?_⟩) ?_ ?_
            rotate_left
            ·intro w'
             go_simp
             with_reducible rfl
            rotate_left
            ·simp only [Act.put, List.setIfInBounds_toArray, List.set_cons_zero, List.set_cons_succ, i64_w, i32_w]
             rfl
            refine pure_ (i := 2) (N := some 35) (v := ?_) (a' := ?_) head_Write.a3 rfl rfl (any_of HT_.out (by kernel_rfl)) (fun _ _ _ h => h) (Or.inl ⟨by rfl, ?_⟩) ?_ ?_
            rotate_left
            ·intro w'
             go_simp
             with_reducible rfl
            rotate_left
            ·simp only [Act.put, List.setIfInBounds_toArray, List.set_cons_zero, List.set_cons_succ, i64_w, i32_w]
             rfl
            refine take_ (i := 3) (N := some 36) (v := ?_) (a' := ?_) head_Write.a4 rfl rfl (take_ofW HT_.out HW_.out (by kernel_rfl)) (fun _ _ _ h => h) (Or.inl ⟨by rfl, ?_⟩) hHeld ?_ ?_
            rotate_left
            ·rintro w' ⟨s0, s1⟩
             go_simp
             with_reducible rfl
            rotate_left
            ·simp only [Act.put, List.setIfInBounds_toArray, List.set_cons_zero, List.set_cons_succ, i64_w, i32_w]
             rfl
            refine one_ (i := 4) (N := some 37) head_Write.a5 rfl rfl (one_of HT_.out (by kernel_rfl)) (by decide) (fun K hK => ?_)
            refine goes_ Tryd.func38 (by kernel_rfl) rfl #[.string ((rd_T38 l0_4 x29_2).f0)] (by rfl) rfl rfl (by (try simp only [List.map_toArray, List.map_cons, List.map_nil]); first | done | rfl | (simp only [List.length_drop, List.length_take]; rfl)) ?_
            with_reducible refine (head_token.calls k2 ((rd_T38 l0_4 x29_2).f0) true _ A17.out).mono ?_
            rintro e w' ⟨rfl, ⟨nd, rfl⟩⟩
            refine ⟨_, rfl, ?_⟩
            refine hK.out _ _ ⟨(blk_cell BK373.out 0).trans rfl, (blk_cell BK373.out 1).trans rfl⟩ (fun hHeld => ?_)
            clear hK K
            refine norm_ (a' := ?_) ?_ ?_
            rotate_left
            ·show Act.put _ (some 37) _ = _
             simp only [Act.put, List.setIfInBounds_toArray, List.set_cons_zero, List.set_cons_succ, i64_w, i32_w]
             rfl
            refine pure_ (i := 5) (N := some 38) (v := ?_) (a' := ?_) head_Write.a6 rfl rfl (any_of HT_.out (by kernel_rfl)) (fun _ _ _ h => h) (Or.inl ⟨by rfl, ?_⟩) ?_ ?_
            rotate_left
            ·intro w'
             go_simp
             with_reducible rfl
            rotate_left
            ·simp only [Act.put, List.setIfInBounds_toArray, List.set_cons_zero, List.set_cons_succ, i64_w, i32_w]
             rfl
            refine pure_ (i := 6) (N := some 39) (v := ?_) (a' := ?_) head_Write.a7 rfl rfl (any_of HT_.out (by kernel_rfl)) (fun _ _ _ h => h) (Or.inl ⟨by rfl, ?_⟩) ?_ ?_
            rotate_left
            ·intro w'
             go_simp
             with_reducible rfl
            rotate_left
            ·simp only [Act.put, List.setIfInBounds_toArray, List.set_cons_zero, List.set_cons_succ, i64_w, i32_w]
             rfl
            refine pure_ (i := 7) (N := some 40) (v := ?_) (a' := ?_) head_Write.a8 rfl rfl (any_of HT_.out (by kernel_rfl)) (fun _ _ _ h => h) (Or.inl ⟨by rfl, ?_⟩) ?_ ?_
            rotate_left
            ·intro w'
             go_simp
             with_reducible rfl
            rotate_left
            ·simp only [Act.put, List.setIfInBounds_toArray, List.set_cons_zero, List.set_cons_succ, i64_w, i32_w]
             rfl
            refine pure_ (i := 10) (N := some 43) (v := ?_) (a' := ?_) head_Write.a9 rfl rfl (any_of HT_.out (by kernel_rfl)) (fun _ _ _ h => h) (Or.inl ⟨by rfl, ?_⟩) ?_ ?_
            rotate_left
            ·intro w'
             go_simp
             with_reducible rfl
            rotate_left
            ·simp only [Act.put, List.setIfInBounds_toArray, List.set_cons_zero, List.set_cons_succ, i64_w, i32_w]
             rfl
            refine take_ (i := 8) (N := some 41) (v := ?_) (a' := ?_) head_Write.a10 rfl rfl (take_ofW HT_.out HW_.out (by kernel_rfl)) (fun _ _ _ h => h) (Or.inl ⟨by rfl, ?_⟩) hHeld ?_ ?_
            rotate_left
            ·rintro w' ⟨s0, s1⟩
             go_simp
             with_reducible rfl
            rotate_left
            ·simp only [Act.put, List.setIfInBounds_toArray, List.set_cons_zero, List.set_cons_succ, i64_w, i32_w]
             rfl
            refine take_ (i := 11) (N := some 44) (v := ?_) (a' := ?_) head_Write.a11 rfl rfl (take_ofW HT_.out HW_.out (by kernel_rfl)) (fun _ _ _ h => h) (Or.inl ⟨by rfl, ?_⟩) hHeld ?_ ?_
            rotate_left
            ·rintro w' ⟨s0, s1⟩
             go_simp
             with_reducible rfl
            rotate_left
            ·simp only [Act.put, List.setIfInBounds_toArray, List.set_cons_zero, List.set_cons_succ, i64_w, i32_w]
             rfl
            refine one_ (i := 9) (N := some 42) head_Write.a12 rfl rfl (one_of HT_.out (by kernel_rfl)) (by decide) (fun K hK => ?_)
            refine goes_ Tryd.func41 (by kernel_rfl) rfl #[.string ((rd_T38 l0_4 x29_2).f0)] (by rfl) rfl rfl (by (try simp only [List.map_toArray, List.map_cons, List.map_nil]); first | done | rfl | (simp only [List.length_drop, List.length_take]; rfl)) ?_
            with_reducible refine (head_lower.calls ((rd_T38 l0_4 x29_2).f0) t375 _ A19.out).mono ?_
            rintro e w56 ⟨rfl, hb⟩
            refine ⟨_, rfl, ?_⟩
            have n0_ := Aside0.mk (blk_below (g := gb368) (o := .cells #[.string a0_0, .string a0_1, .string a0_2, .string a0_3, .slice (some ad372) l0_4.length c0_4] 25 (0, 0)) (by (with_reducible repeat (first | refine blk_drewN ?_ _ | refine blk_drew ?_ | refine blk_alloc ?_ _)); exact BK368.out) hb)
            have n1_ := Aside0.mk (blk_below (g := gb373) (o := .cells #[.string ((rd_T38 l0_4 x29_2).f0), .string ((rd_T38 l0_4 x29_2).f1)] 38 (0, 0)) (by (with_reducible repeat (first | refine blk_drewN ?_ _ | refine blk_drew ?_ | refine blk_alloc ?_ _)); exact BK373.out) hb)
            have n2_ := Aside0.mk (below_step (by repeat (first | (with_reducible first | exact HB.out | apply below_alloc | apply pw_below_drewN | apply below_drew1 | refine below_set ?_ GE368.out | refine below_set ?_ GE373.out) | exact HB.out)) hb)
            clear BK368
            clear BK373
            clear HB
            have BK368 := n0_
            have BK373 := n1_
            have HB := n2_
            clear n0_ n1_ n2_
            (try clear hb)
            (try clear hb2)
            (try clear hk)
            (try clear hi)
            refine hK.out _ _ ⟨(blk_cell BK373.out 0).trans rfl, (blk_cell BK373.out 1).trans rfl⟩ (fun hHeld => ?_)
            clear hK K
            refine norm_ (a' := ?_) ?_ ?_
            rotate_left
            ·show Act.put _ (some 42) _ = _
             simp only [Act.put, List.setIfInBounds_toArray, List.set_cons_zero, List.set_cons_succ, i64_w, i32_w]
             rfl
            refine pure_ (i := 12) (N := some 45) (v := ?_) (a' := ?_) head_Write.a13 rfl rfl (any_of HT_.out (by kernel_rfl)) (fun _ _ _ h => h) (Or.inl ⟨by rfl, ?_⟩) ?_ ?_
            rotate_left
            ·intro w'
             go_simp
             with_reducible rfl
            rotate_left
            ·simp only [Act.put, List.setIfInBounds_toArray, List.set_cons_zero, List.set_cons_succ, i64_w, i32_w]
             rfl
            refine pure_ (i := 13) (N := some 46) (v := ?_) (a' := ?_) head_Write.a14 rfl rfl (any_of HT_.out (by kernel_rfl)) (fun _ _ _ h => h) (Or.inl ⟨by rfl, ?_⟩) ?_ ?_
            rotate_left
            ·intro w'
             go_simp
             with_reducible rfl
            rotate_left
            ·simp only [Act.put, List.setIfInBounds_toArray, List.set_cons_zero, List.set_cons_succ, i64_w, i32_w]
             rfl
            refine pure_ (i := 14) (N := some 47) (v := ?_) (a' := ?_) head_Write.a15 rfl rfl (any_of HT_.out (by kernel_rfl)) (fun _ _ _ h => h) (Or.inl ⟨by rfl, ?_⟩) ?_ ?_
            rotate_left
            ·intro w'
             go_simp
             with_reducible rfl
            rotate_left
            ·simp only [Act.put, List.setIfInBounds_toArray, List.set_cons_zero, List.set_cons_succ, i64_w, i32_w]
             rfl
            refine pure_ (i := 15) (N := some 48) (v := ?_) (a' := ?_) head_Write.a16 rfl rfl (any_of HT_.out (by kernel_rfl)) (fun _ _ _ h => h) (Or.inl ⟨by rfl, ?_⟩) ?_ ?_
            rotate_left
            ·intro w'
             go_simp
             with_reducible rfl
            rotate_left
            ·simp only [Act.put, List.setIfInBounds_toArray, List.set_cons_zero, List.set_cons_succ, i64_w, i32_w]
             rfl
            refine take_ (i := 16) (N := some 49) (v := ?_) (a' := ?_) head_Write.a17 rfl rfl (take_ofW HT_.out HW_.out (by kernel_rfl)) (fun _ _ _ h => h) (Or.inl ⟨by rfl, ?_⟩) hHeld ?_ ?_
            rotate_left
            ·rintro w' ⟨s0, s1⟩
             go_simp
             with_reducible rfl
            rotate_left
            ·simp only [Act.put, List.setIfInBounds_toArray, List.set_cons_zero, List.set_cons_succ, i64_w, i32_w]
             rfl
            refine one_ (i := 17) (N := some 50) head_Write.a18 rfl rfl (one_of HT_.out (by kernel_rfl)) (by decide) (fun K hK => ?_)
            refine goes_ Tryd.func40 (by kernel_rfl) rfl #[.string ((rd_T38 l0_4 x29_2).f1)] (by rfl) rfl rfl (by (try simp only [List.map_toArray, List.map_cons, List.map_nil]); first | done | rfl | (simp only [List.length_drop, List.length_take]; rfl)) ?_
            with_reducible refine (head_value.calls k2 ((rd_T38 l0_4 x29_2).f1) t376 _ A21.out).mono ?_
            rintro e w' ⟨rfl, ⟨nd, rfl⟩⟩
            refine ⟨_, rfl, ?_⟩
            refine hK.out _ _ ⟨(blk_cell BK373.out 0).trans rfl, (blk_cell BK373.out 1).trans rfl⟩ (fun hHeld => ?_)
            clear hK K
            refine norm_ (a' := ?_) ?_ ?_
            rotate_left
            ·show Act.put _ (some 50) _ = _
             simp only [Act.put, List.setIfInBounds_toArray, List.set_cons_zero, List.set_cons_succ, i64_w, i32_w]
             rfl
            refine pure_ (i := 18) (N := some 51) (v := ?_) (a' := ?_) head_Write.a19 rfl rfl (any_of HT_.out (by kernel_rfl)) (fun _ _ _ h => h) (Or.inl ⟨by rfl, ?_⟩) ?_ ?_
            rotate_left
            ·intro w'
             go_simp
             with_reducible rfl
            rotate_left
            ·simp only [Act.put, List.setIfInBounds_toArray, List.set_cons_zero, List.set_cons_succ, i64_w, i32_w]
             rfl
            refine pure_ (i := 19) (N := some 4) (v := ?_) (a' := ?_) head_Write.a20 rfl rfl (any_of HT_.out (by kernel_rfl)) (fun _ _ _ h => h) (Or.inl ⟨by rfl, ?_⟩) ?_ ?_
            rotate_left
            ·intro w'
             go_simp
             with_reducible rfl
            rotate_left
            ·simp only [Act.put, List.setIfInBounds_toArray, List.set_cons_zero, List.set_cons_succ, i64_w, i32_w]
             rfl
            refine done_ (done_of HT_.out (by kernel_rfl)) ?_
            have hcz57_0 : w56.cell? ⟨gb373, 0, none⟩ = some (.string ((rd_T38 l0_4 x29_2).f0)) := (blk_cell BK373.out 0).trans rfl
            have hcz57_1 : w56.cell? ⟨gb373, 1, none⟩ = some (.string ((rd_T38 l0_4 x29_2).f1)) := (blk_cell BK373.out 1).trans rfl
            have hfz57_0 := blk_frozen BK373.out 0
            have hfz57_1 := blk_frozen BK373.out 1
            try go_wp2
            go_roundg k2
            case measure => have := HJ1.out; have := HK2.out; omega
            case rel => exact ⟨(t376), (x5_2), (wrap64 (x29_2 + 1)), (by first | rfl | (simp; done) | (simp [*]; done)), (by first | rfl | (simp; done) | (simp [*]; done)), (by first | rfl | (simp; done) | (simp [*]; done)), H', ⟨by have := HJ1.out; have := HK2.out; omega⟩, ⟨by (with_reducible repeat (first | refine blk_drewN ?_ _ | refine blk_drew ?_ | refine blk_alloc ?_ _)); exact BK368.out⟩, ⟨by repeat (first | (with_reducible first | exact HB.out | apply below_alloc | apply pw_below_drewN | apply below_drew1 | refine below_set ?_ GE368.out | refine below_set ?_ GE373.out) | exact HB.out)⟩⟩
          ·rw [if_neg c20] at H
           have c20b0 : (t375.toList == ((rd_T38 l0_4 x29_2).f0).toList) = false := beq_eq_false_iff_ne.mpr c20
           have c20b1 : (t375.toList != ((rd_T38 l0_4 x29_2).f0).toList) = true := bne_iff_ne.mpr c20
           by_cases c58 : ((rd_T38 l0_4 x29_2).f0).toList = ([104, 111, 115, 116] : List UInt8)
           ·rw [if_pos c58] at H
            have c58b0 : (((rd_T38 l0_4 x29_2).f0).toList == ([104, 111, 115, 116] : List UInt8)) = true := beq_iff_eq.mpr c58
            have c58b1 : (((rd_T38 l0_4 x29_2).f0).toList != ([104, 111, 115, 116] : List UInt8)) = false := bne_eq_false_iff_eq.mpr c58
            clear c58
            replace H := Option.bind_eq_some_iff.mp H
            obtain ⟨⟨t379, t380⟩, A590, H⟩ := H
            replace H : (head_Write.l0 k2 false (wrap64 (x5_2 + 1)) l0_4 (l0_4.length : Int) (wrap64 (x29_2 + 1)) a0_0 a0_1 a0_2 a0_3 l0_4) = some (r1, r2) := H
            have A59 := Aside0.mk A590
            clear A590
            have H' := Aside0.mk H
            clear H
            have p372 : 0 ≤ (x29_2 : Int) := of_decide_eq_true (by first | (with_reducible assumption) | assumption)
            have q372 : x29_2 < (l0_4.length : Int) := of_decide_eq_true (by first | (with_reducible assumption) | assumption)
            obtain ⟨ad372, e372, hx372_0, hx372_1⟩ := at_T38 HR0_4.out x29_2 p372 q372
            cases e372
            replace hx372_0 := (HB.out.cell (World.block_lt_of_cell? w _ hx372_0)).trans hx372_0
            replace hx372_1 := (HB.out.cell (World.block_lt_of_cell? w _ hx372_1)).trans hx372_1
            replace p372 := eq_true p372
            replace q372 := eq_true q372
            try go_wp2_with (first | ((with_reducible refine gate_dst (N := 7) rfl ?_); (try (refine gate_guard (by rfl) ?_; dsimp only)); refine box_event ?hg (N := 7) ?hd (cs := #[.string (⟨#[]⟩ : ByteArray), .string (⟨#[]⟩ : ByteArray)]) (t := 38) ?hr ?_; (case hd => rfl); (case hg => rfl); (case hr => first | (go_simp; done) | (go_simp; rfl)); intro gb373 hg w60 hbox hb; have n0_ := Aside0.mk (blk_below (g := gb368) (o := .cells #[.string a0_0, .string a0_1, .string a0_2, .string a0_3, .slice (some ad372) l0_4.length c0_4] 25 (0, 0)) (by (with_reducible repeat (first | refine blk_drewN ?_ _ | refine blk_drew ?_ | refine blk_alloc ?_ _)); exact BK368.out) hb); have n1_ := Aside0.mk (below_step (by repeat (first | (with_reducible first | exact HB.out | apply below_alloc | apply pw_below_drewN | apply below_drew1 | refine below_set ?_ GE368.out) | exact HB.out)) hb); have n2_ := Aside0.mk (hbox); have n3_ := Aside0.mk ((by rw [hg]; exact (below_size (by repeat (first | (with_reducible first | exact HB.out | apply below_alloc | apply pw_below_drewN | apply below_drew1 | refine below_set ?_ GE368.out) | exact HB.out))) : w.heap.size ≤ gb373)); have n4_ := Aside0.mk ((by rw [hg]; exact (below_size (by repeat (first | (with_reducible first | exact HB.out | apply below_alloc | apply pw_below_drewN | apply below_drew1 | refine below_set ?_ GE368.out) | exact HB.out))) : w.heap.size ≤ gb373)); have n5_ := Aside0.mk ((by rw [hg]; exact Nat.ne_of_lt (blk_lt (g := gb368) (o := .cells #[.string a0_0, .string a0_1, .string a0_2, .string a0_3, .slice (some ad372) l0_4.length c0_4] 25 (0, 0)) (by (with_reducible repeat (first | refine blk_drewN ?_ _ | refine blk_drew ?_ | refine blk_alloc ?_ _)); exact BK368.out)) : gb368 ≠ gb373)); have n6_ := Aside0.mk ((by rw [hg]; exact Nat.ne_of_gt (blk_lt (g := gb368) (o := .cells #[.string a0_0, .string a0_1, .string a0_2, .string a0_3, .slice (some ad372) l0_4.length c0_4] 25 (0, 0)) (by (with_reducible repeat (first | refine blk_drewN ?_ _ | refine blk_drew ?_ | refine blk_alloc ?_ _)); exact BK368.out)) : gb373 ≠ gb368)); clear BK368; clear HB; have BK368 := n0_; have HB := n1_; have BK373 := n2_; have GW373 := n3_; have GE373 := n4_; have NB368_373 := n5_; have NB373_368 := n6_; clear n0_ n1_ n2_ n3_ n4_ n5_ n6_; clear hb hbox hg; have hnb61 := NB373_368.out; have hnc61 := NB368_373.out; have hcz62_0 : w60.cell? ⟨gb373, 0, none⟩ = some (.string (⟨#[]⟩ : ByteArray)) := (blk_cell BK373.out 0).trans rfl; have hcz62_1 : w60.cell? ⟨gb373, 1, none⟩ = some (.string (⟨#[]⟩ : ByteArray)) := (blk_cell BK373.out 1).trans rfl; have hfz62_0 := blk_frozen BK373.out 0; have hfz62_1 := blk_frozen BK373.out 1))
            have n0_ : Aside0 (((w60.setCell ⟨gb373, 0, none⟩ (.string ((rd_T38 l0_4 x29_2).f0))).setCell ⟨gb373, 1, none⟩ (.string ((rd_T38 l0_4 x29_2).f1))).heap[gb368]? = some (.cells #[.string a0_0, .string a0_1, .string a0_2, .string a0_3, .slice (some ad372) l0_4.length c0_4] 25 (0, 0))) := ⟨by (with_reducible repeat (first | refine blk_drewN ?_ _ | refine blk_drew ?_ | refine blk_alloc ?_ _)); refine blk_far ?_ NB368_373.out _; (with_reducible repeat (first | refine blk_drewN ?_ _ | refine blk_drew ?_ | refine blk_alloc ?_ _)); refine blk_far ?_ NB368_373.out _; (with_reducible repeat (first | refine blk_drewN ?_ _ | refine blk_drew ?_ | refine blk_alloc ?_ _)); exact BK368.out⟩
            have n1_ : Aside0 (((w60.setCell ⟨gb373, 0, none⟩ (.string ((rd_T38 l0_4 x29_2).f0))).setCell ⟨gb373, 1, none⟩ (.string ((rd_T38 l0_4 x29_2).f1))).heap[gb373]? = some (.cells #[.string ((rd_T38 l0_4 x29_2).f0), .string ((rd_T38 l0_4 x29_2).f1)] 38 (0, 0))) := ⟨by (with_reducible repeat (first | refine blk_drewN ?_ _ | refine blk_drew ?_ | refine blk_alloc ?_ _)); refine blk_put (cs := #[.string ((rd_T38 l0_4 x29_2).f0), .string (⟨#[]⟩ : ByteArray)]) ?_ 1 _ rfl; (with_reducible repeat (first | refine blk_drewN ?_ _ | refine blk_drew ?_ | refine blk_alloc ?_ _)); refine blk_put (cs := #[.string (⟨#[]⟩ : ByteArray), .string (⟨#[]⟩ : ByteArray)]) ?_ 0 _ rfl; (with_reducible repeat (first | refine blk_drewN ?_ _ | refine blk_drew ?_ | refine blk_alloc ?_ _)); exact BK373.out⟩
            have n2_ : Aside0 (Below w.heap.size w ((w60.setCell ⟨gb373, 0, none⟩ (.string ((rd_T38 l0_4 x29_2).f0))).setCell ⟨gb373, 1, none⟩ (.string ((rd_T38 l0_4 x29_2).f1)))) := ⟨by repeat (first | (with_reducible first | exact HB.out | apply below_alloc | apply pw_below_drewN | apply below_drew1 | refine below_set ?_ GE368.out | refine below_set ?_ GE373.out) | exact HB.out)⟩
            (try clear BK368)
            (try clear BK373)
            (try clear HB)
            generalize ((w60.setCell ⟨gb373, 0, none⟩ (.string ((rd_T38 l0_4 x29_2).f0))).setCell ⟨gb373, 1, none⟩ (.string ((rd_T38 l0_4 x29_2).f1))) = w63 at n0_ n1_ n2_ ⊢
            have BK368 := n0_
            have BK373 := n1_
            have HB := n2_
            clear n0_ n1_ n2_
            have n0_ := Aside0.mk (blk_drew BK368.out)
            have n1_ := Aside0.mk (blk_drew BK373.out)
            have n2_ := Aside0.mk (below_drew1 HB.out)
            clear BK368
            clear BK373
            clear HB
            have BK368 := n0_
            have BK373 := n1_
            have HB := n2_
            clear n0_ n1_ n2_
            refine start_ (n := 20) (S := fun w' => w'.cell? ⟨gb373, 0, none⟩ = some (.string ((rd_T38 l0_4 x29_2).f0)) ∧ w'.cell? ⟨gb373, 1, none⟩ = some (.string ((rd_T38 l0_4 x29_2).f1))) (ds := []) head_Write.a0 (by kernel_rfl) rfl rfl ⟨(blk_cell BK373.out 0).trans rfl, (blk_cell BK373.out 1).trans rfl⟩ (fun hHeld => ?_); refine with_tabW head_Write.tab6 head_Write.bits6 (fun HT_ HW_ => ?_)
            generalize w63.drew = w64 at BK368 BK373 HB hHeld ⊢
            refine pure_ (i := 0) (N := some 33) (v := ?_) (a' := ?_) head_Write.a1 rfl rfl (any_of HT_.out (by kernel_rfl)) (fun _ _ _ h => h) (Or.inl ⟨by rfl, ?_⟩) ?_ ?_
            rotate_left
            ·intro w'
             go_simp
             with_reducible rfl
            rotate_left
            ·simp only [Act.put, List.setIfInBounds_toArray, List.set_cons_zero, List.set_cons_succ, i64_w, i32_w]
             rfl
            refine pure_ (i := 1) (N := some 34) (v := ?_) (a' := ?_) head_Write.a2 rfl rfl (any_of HT_.out (by kernel_rfl)) (fun _ _ _ h => h) (Or.inl ⟨by rfl, ?_⟩) ?_ ?_
            rotate_left
            ·intro w'
             go_simp
             with_reducible rfl
            rotate_left
            ·simp only [Act.put, List.setIfInBounds_toArray, List.set_cons_zero, List.set_cons_succ, i64_w, i32_w]
             rfl
            refine pure_ (i := 2) (N := some 35) (v := ?_) (a' := ?_) head_Write.a3 rfl rfl (any_of HT_.out (by kernel_rfl)) (fun _ _ _ h => h) (Or.inl ⟨by rfl, ?_⟩) ?_ ?_
            rotate_left
            ·intro w'
             go_simp
             with_reducible rfl
            rotate_left
            ·simp only [Act.put, List.setIfInBounds_toArray, List.set_cons_zero, List.set_cons_succ, i64_w, i32_w]
             rfl
            refine take_ (i := 3) (N := some 36) (v := ?_) (a' := ?_) head_Write.a4 rfl rfl (take_ofW HT_.out HW_.out (by kernel_rfl)) (fun _ _ _ h => h) (Or.inl ⟨by rfl, ?_⟩) hHeld ?_ ?_
            rotate_left
            ·rintro w' ⟨s0, s1⟩
             go_simp
             with_reducible rfl
            rotate_left
            ·simp only [Act.put, List.setIfInBounds_toArray, List.set_cons_zero, List.set_cons_succ, i64_w, i32_w]
             rfl
            refine one_ (i := 4) (N := some 37) head_Write.a5 rfl rfl (one_of HT_.out (by kernel_rfl)) (by decide) (fun K hK => ?_)
            refine goes_ Tryd.func38 (by kernel_rfl) rfl #[.string ((rd_T38 l0_4 x29_2).f0)] (by rfl) rfl rfl (by (try simp only [List.map_toArray, List.map_cons, List.map_nil]); first | done | rfl | (simp only [List.length_drop, List.length_take]; rfl)) ?_
            with_reducible refine (head_token.calls k2 ((rd_T38 l0_4 x29_2).f0) true _ A17.out).mono ?_
            rintro e w' ⟨rfl, ⟨nd, rfl⟩⟩
            refine ⟨_, rfl, ?_⟩
            refine hK.out _ _ ⟨(blk_cell BK373.out 0).trans rfl, (blk_cell BK373.out 1).trans rfl⟩ (fun hHeld => ?_)
            clear hK K
            refine norm_ (a' := ?_) ?_ ?_
            rotate_left
            ·show Act.put _ (some 37) _ = _
             simp only [Act.put, List.setIfInBounds_toArray, List.set_cons_zero, List.set_cons_succ, i64_w, i32_w]
             rfl
            refine pure_ (i := 5) (N := some 38) (v := ?_) (a' := ?_) head_Write.a6 rfl rfl (any_of HT_.out (by kernel_rfl)) (fun _ _ _ h => h) (Or.inl ⟨by rfl, ?_⟩) ?_ ?_
            rotate_left
            ·intro w'
             go_simp
             with_reducible rfl
            rotate_left
            ·simp only [Act.put, List.setIfInBounds_toArray, List.set_cons_zero, List.set_cons_succ, i64_w, i32_w]
             rfl
            refine pure_ (i := 6) (N := some 39) (v := ?_) (a' := ?_) head_Write.a7 rfl rfl (any_of HT_.out (by kernel_rfl)) (fun _ _ _ h => h) (Or.inl ⟨by rfl, ?_⟩) ?_ ?_
            rotate_left
            ·intro w'
             go_simp
             with_reducible rfl
            rotate_left
            ·simp only [Act.put, List.setIfInBounds_toArray, List.set_cons_zero, List.set_cons_succ, i64_w, i32_w]
             rfl
            refine pure_ (i := 7) (N := some 40) (v := ?_) (a' := ?_) head_Write.a8 rfl rfl (any_of HT_.out (by kernel_rfl)) (fun _ _ _ h => h) (Or.inl ⟨by rfl, ?_⟩) ?_ ?_
            rotate_left
            ·intro w'
             go_simp
             with_reducible rfl
            rotate_left
            ·simp only [Act.put, List.setIfInBounds_toArray, List.set_cons_zero, List.set_cons_succ, i64_w, i32_w]
             rfl
            refine pure_ (i := 10) (N := some 43) (v := ?_) (a' := ?_) head_Write.a9 rfl rfl (any_of HT_.out (by kernel_rfl)) (fun _ _ _ h => h) (Or.inl ⟨by rfl, ?_⟩) ?_ ?_
            rotate_left
            ·intro w'
             go_simp
             with_reducible rfl
            rotate_left
            ·simp only [Act.put, List.setIfInBounds_toArray, List.set_cons_zero, List.set_cons_succ, i64_w, i32_w]
             rfl
            refine take_ (i := 8) (N := some 41) (v := ?_) (a' := ?_) head_Write.a10 rfl rfl (take_ofW HT_.out HW_.out (by kernel_rfl)) (fun _ _ _ h => h) (Or.inl ⟨by rfl, ?_⟩) hHeld ?_ ?_
            rotate_left
            ·rintro w' ⟨s0, s1⟩
             go_simp
             with_reducible rfl
            rotate_left
            ·simp only [Act.put, List.setIfInBounds_toArray, List.set_cons_zero, List.set_cons_succ, i64_w, i32_w]
             rfl
            refine take_ (i := 11) (N := some 44) (v := ?_) (a' := ?_) head_Write.a11 rfl rfl (take_ofW HT_.out HW_.out (by kernel_rfl)) (fun _ _ _ h => h) (Or.inl ⟨by rfl, ?_⟩) hHeld ?_ ?_
            rotate_left
            ·rintro w' ⟨s0, s1⟩
             go_simp
             with_reducible rfl
            rotate_left
            ·simp only [Act.put, List.setIfInBounds_toArray, List.set_cons_zero, List.set_cons_succ, i64_w, i32_w]
             rfl
            refine one_ (i := 9) (N := some 42) head_Write.a12 rfl rfl (one_of HT_.out (by kernel_rfl)) (by decide) (fun K hK => ?_)
            refine goes_ Tryd.func41 (by kernel_rfl) rfl #[.string ((rd_T38 l0_4 x29_2).f0)] (by rfl) rfl rfl (by (try simp only [List.map_toArray, List.map_cons, List.map_nil]); first | done | rfl | (simp only [List.length_drop, List.length_take]; rfl)) ?_
            with_reducible refine (head_lower.calls ((rd_T38 l0_4 x29_2).f0) t375 _ A19.out).mono ?_
            rintro e w65 ⟨rfl, hb⟩
            refine ⟨_, rfl, ?_⟩
            have n0_ := Aside0.mk (blk_below (g := gb368) (o := .cells #[.string a0_0, .string a0_1, .string a0_2, .string a0_3, .slice (some ad372) l0_4.length c0_4] 25 (0, 0)) (by (with_reducible repeat (first | refine blk_drewN ?_ _ | refine blk_drew ?_ | refine blk_alloc ?_ _)); exact BK368.out) hb)
            have n1_ := Aside0.mk (blk_below (g := gb373) (o := .cells #[.string ((rd_T38 l0_4 x29_2).f0), .string ((rd_T38 l0_4 x29_2).f1)] 38 (0, 0)) (by (with_reducible repeat (first | refine blk_drewN ?_ _ | refine blk_drew ?_ | refine blk_alloc ?_ _)); exact BK373.out) hb)
            have n2_ := Aside0.mk (below_step (by repeat (first | (with_reducible first | exact HB.out | apply below_alloc | apply pw_below_drewN | apply below_drew1 | refine below_set ?_ GE368.out | refine below_set ?_ GE373.out) | exact HB.out)) hb)
            clear BK368
            clear BK373
            clear HB
            have BK368 := n0_
            have BK373 := n1_
            have HB := n2_
            clear n0_ n1_ n2_
            (try clear hb)
            (try clear hb2)
            (try clear hk)
            (try clear hi)
            refine hK.out _ _ ⟨(blk_cell BK373.out 0).trans rfl, (blk_cell BK373.out 1).trans rfl⟩ (fun hHeld => ?_)
            clear hK K
            refine norm_ (a' := ?_) ?_ ?_
            rotate_left
            ·show Act.put _ (some 42) _ = _
             simp only [Act.put, List.setIfInBounds_toArray, List.set_cons_zero, List.set_cons_succ, i64_w, i32_w]
             rfl
            refine pure_ (i := 12) (N := some 45) (v := ?_) (a' := ?_) head_Write.a13 rfl rfl (any_of HT_.out (by kernel_rfl)) (fun _ _ _ h => h) (Or.inl ⟨by rfl, ?_⟩) ?_ ?_
            rotate_left
            ·intro w'
             go_simp
             with_reducible rfl
            rotate_left
            ·simp only [Act.put, List.setIfInBounds_toArray, List.set_cons_zero, List.set_cons_succ, i64_w, i32_w]
             rfl
            refine pure_ (i := 13) (N := some 46) (v := ?_) (a' := ?_) head_Write.a14 rfl rfl (any_of HT_.out (by kernel_rfl)) (fun _ _ _ h => h) (Or.inl ⟨by rfl, ?_⟩) ?_ ?_
            rotate_left
            ·intro w'
             go_simp
             with_reducible rfl
            rotate_left
            ·simp only [Act.put, List.setIfInBounds_toArray, List.set_cons_zero, List.set_cons_succ, i64_w, i32_w]
             rfl
            refine pure_ (i := 14) (N := some 47) (v := ?_) (a' := ?_) head_Write.a15 rfl rfl (any_of HT_.out (by kernel_rfl)) (fun _ _ _ h => h) (Or.inl ⟨by rfl, ?_⟩) ?_ ?_
            rotate_left
            ·intro w'
             go_simp
             with_reducible rfl
            rotate_left
            ·simp only [Act.put, List.setIfInBounds_toArray, List.set_cons_zero, List.set_cons_succ, i64_w, i32_w]
             rfl
            refine pure_ (i := 15) (N := some 48) (v := undef) (a' := ?_) head_Write.a16 rfl rfl (any_of HT_.out (by kernel_rfl)) (fun _ _ _ h => h) (Or.inr ⟨by rfl, rfl⟩) ?_ ?_
            rotate_left
            ·simp only [Act.put, List.setIfInBounds_toArray, List.set_cons_zero, List.set_cons_succ, i64_w, i32_w]
             rfl
            refine pure_ (i := 16) (N := some 49) (v := undef) (a' := ?_) head_Write.a17 rfl rfl (any_of HT_.out (by kernel_rfl)) (fun _ _ _ h => h) (Or.inr ⟨by rfl, rfl⟩) ?_ ?_
            rotate_left
            ·simp only [Act.put, List.setIfInBounds_toArray, List.set_cons_zero, List.set_cons_succ, i64_w, i32_w]
             rfl
            refine pure_ (i := 17) (N := some 50) (v := undef) (a' := ?_) head_Write.a18 rfl rfl (any_of HT_.out (by kernel_rfl)) (fun _ _ _ h => h) (Or.inr ⟨by rfl, rfl⟩) ?_ ?_
            rotate_left
            ·simp only [Act.put, List.setIfInBounds_toArray, List.set_cons_zero, List.set_cons_succ, i64_w, i32_w]
             rfl
            refine pure_ (i := 18) (N := some 51) (v := ?_) (a' := ?_) head_Write.a19 rfl rfl (any_of HT_.out (by kernel_rfl)) (fun _ _ _ h => h) (Or.inl ⟨by rfl, ?_⟩) ?_ ?_
            rotate_left
            ·intro w'
             go_simp
             with_reducible rfl
            rotate_left
            ·simp only [Act.put, List.setIfInBounds_toArray, List.set_cons_zero, List.set_cons_succ, i64_w, i32_w]
             rfl
            refine pure_ (i := 19) (N := some 4) (v := ?_) (a' := ?_) head_Write.a20 rfl rfl (any_of HT_.out (by kernel_rfl)) (fun _ _ _ h => h) (Or.inl ⟨by rfl, ?_⟩) ?_ ?_
            rotate_left
            ·intro w'
             go_simp
             with_reducible rfl
            rotate_left
            ·simp only [Act.put, List.setIfInBounds_toArray, List.set_cons_zero, List.set_cons_succ, i64_w, i32_w]
             rfl
            refine done_ (done_of HT_.out (by kernel_rfl)) ?_
            have hcz66_0 : w65.cell? ⟨gb373, 0, none⟩ = some (.string ((rd_T38 l0_4 x29_2).f0)) := (blk_cell BK373.out 0).trans rfl
            have hcz66_1 : w65.cell? ⟨gb373, 1, none⟩ = some (.string ((rd_T38 l0_4 x29_2).f1)) := (blk_cell BK373.out 1).trans rfl
            have hfz66_0 := blk_frozen BK373.out 0
            have hfz66_1 := blk_frozen BK373.out 1
            try go_wp2_with (first | ((with_reducible refine gate_callee (f := 18) rfl ?_); refine goesL_ (some 60) rfl rfl Tryd.func18 (by kernel_rfl) rfl #[.string ((rd_T38 l0_4 x29_2).f1)] rfl (by (try simp only [List.map_toArray, List.map_cons, List.map_nil]); first | done | rfl | (simp only [List.length_drop, List.length_take]; rfl)) ?_; (with_reducible refine (head_Host.calls k2 ((rd_T38 l0_4 x29_2).f1) t379 t380 _ ?side1 A59.out).mono ?_); (case side1 => exact ML.keep HML.out (by repeat (first | (with_reducible first | exact HB.out | apply below_alloc | apply pw_below_drewN | apply below_drew1 | refine below_set ?_ GE368.out | refine below_set ?_ GE373.out) | exact HB.out))); rintro e w67 ⟨rfl, hb⟩; refine ⟨_, rfl, ?_⟩; have n0_ := Aside0.mk (blk_below (g := gb368) (o := .cells #[.string a0_0, .string a0_1, .string a0_2, .string a0_3, .slice (some ad372) l0_4.length c0_4] 25 (0, 0)) (by (with_reducible repeat (first | refine blk_drewN ?_ _ | refine blk_drew ?_ | refine blk_alloc ?_ _)); exact BK368.out) hb); have n1_ := Aside0.mk (blk_below (g := gb373) (o := .cells #[.string ((rd_T38 l0_4 x29_2).f0), .string ((rd_T38 l0_4 x29_2).f1)] 38 (0, 0)) (by (with_reducible repeat (first | refine blk_drewN ?_ _ | refine blk_drew ?_ | refine blk_alloc ?_ _)); exact BK373.out) hb); have n2_ := Aside0.mk (below_step (by repeat (first | (with_reducible first | exact HB.out | apply below_alloc | apply pw_below_drewN | apply below_drew1 | refine below_set ?_ GE368.out | refine below_set ?_ GE373.out) | exact HB.out)) hb); clear BK368; clear BK373; clear HB; have BK368 := n0_; have BK373 := n1_; have HB := n2_; clear n0_ n1_ n2_; (try clear hb); (try clear hb2); (try clear hk); (try clear hi)))
            go_roundg k2
            case measure => have := HJ1.out; have := HK2.out; omega
            case rel => exact ⟨(false), (wrap64 (x5_2 + 1)), (wrap64 (x29_2 + 1)), (by first | rfl | (simp; done) | (simp [*]; done)), (by first | rfl | (simp; done) | (simp [*]; done)), (by first | rfl | (simp; done) | (simp [*]; done)), H', ⟨by have := HJ1.out; have := HK2.out; omega⟩, ⟨by (with_reducible repeat (first | refine blk_drewN ?_ _ | refine blk_drew ?_ | refine blk_alloc ?_ _)); exact BK368.out⟩, ⟨by repeat (first | (with_reducible first | exact HB.out | apply below_alloc | apply pw_below_drewN | apply below_drew1 | refine below_set ?_ GE368.out | refine below_set ?_ GE373.out) | exact HB.out)⟩⟩
           ·rw [if_neg c58] at H
            have c58b0 : (((rd_T38 l0_4 x29_2).f0).toList == ([104, 111, 115, 116] : List UInt8)) = false := beq_eq_false_iff_ne.mpr c58
            have c58b1 : (((rd_T38 l0_4 x29_2).f0).toList != ([104, 111, 115, 116] : List UInt8)) = true := bne_iff_ne.mpr c58
            have H' := Aside0.mk H
            clear H
            have p372 : 0 ≤ (x29_2 : Int) := of_decide_eq_true (by first | (with_reducible assumption) | assumption)
            have q372 : x29_2 < (l0_4.length : Int) := of_decide_eq_true (by first | (with_reducible assumption) | assumption)
            obtain ⟨ad372, e372, hx372_0, hx372_1⟩ := at_T38 HR0_4.out x29_2 p372 q372
            cases e372
            replace hx372_0 := (HB.out.cell (World.block_lt_of_cell? w _ hx372_0)).trans hx372_0
            replace hx372_1 := (HB.out.cell (World.block_lt_of_cell? w _ hx372_1)).trans hx372_1
            replace p372 := eq_true p372
            replace q372 := eq_true q372
            try go_wp2_with (first | ((with_reducible refine gate_dst (N := 7) rfl ?_); (try (refine gate_guard (by rfl) ?_; dsimp only)); refine box_event ?hg (N := 7) ?hd (cs := #[.string (⟨#[]⟩ : ByteArray), .string (⟨#[]⟩ : ByteArray)]) (t := 38) ?hr ?_; (case hd => rfl); (case hg => rfl); (case hr => first | (go_simp; done) | (go_simp; rfl)); intro gb373 hg w68 hbox hb; have n0_ := Aside0.mk (blk_below (g := gb368) (o := .cells #[.string a0_0, .string a0_1, .string a0_2, .string a0_3, .slice (some ad372) l0_4.length c0_4] 25 (0, 0)) (by (with_reducible repeat (first | refine blk_drewN ?_ _ | refine blk_drew ?_ | refine blk_alloc ?_ _)); exact BK368.out) hb); have n1_ := Aside0.mk (below_step (by repeat (first | (with_reducible first | exact HB.out | apply below_alloc | apply pw_below_drewN | apply below_drew1 | refine below_set ?_ GE368.out) | exact HB.out)) hb); have n2_ := Aside0.mk (hbox); have n3_ := Aside0.mk ((by rw [hg]; exact (below_size (by repeat (first | (with_reducible first | exact HB.out | apply below_alloc | apply pw_below_drewN | apply below_drew1 | refine below_set ?_ GE368.out) | exact HB.out))) : w.heap.size ≤ gb373)); have n4_ := Aside0.mk ((by rw [hg]; exact (below_size (by repeat (first | (with_reducible first | exact HB.out | apply below_alloc | apply pw_below_drewN | apply below_drew1 | refine below_set ?_ GE368.out) | exact HB.out))) : w.heap.size ≤ gb373)); have n5_ := Aside0.mk ((by rw [hg]; exact Nat.ne_of_lt (blk_lt (g := gb368) (o := .cells #[.string a0_0, .string a0_1, .string a0_2, .string a0_3, .slice (some ad372) l0_4.length c0_4] 25 (0, 0)) (by (with_reducible repeat (first | refine blk_drewN ?_ _ | refine blk_drew ?_ | refine blk_alloc ?_ _)); exact BK368.out)) : gb368 ≠ gb373)); have n6_ := Aside0.mk ((by rw [hg]; exact Nat.ne_of_gt (blk_lt (g := gb368) (o := .cells #[.string a0_0, .string a0_1, .string a0_2, .string a0_3, .slice (some ad372) l0_4.length c0_4] 25 (0, 0)) (by (with_reducible repeat (first | refine blk_drewN ?_ _ | refine blk_drew ?_ | refine blk_alloc ?_ _)); exact BK368.out)) : gb373 ≠ gb368)); clear BK368; clear HB; have BK368 := n0_; have HB := n1_; have BK373 := n2_; have GW373 := n3_; have GE373 := n4_; have NB368_373 := n5_; have NB373_368 := n6_; clear n0_ n1_ n2_ n3_ n4_ n5_ n6_; clear hb hbox hg; have hnb69 := NB373_368.out; have hnc69 := NB368_373.out; have hcz70_0 : w68.cell? ⟨gb373, 0, none⟩ = some (.string (⟨#[]⟩ : ByteArray)) := (blk_cell BK373.out 0).trans rfl; have hcz70_1 : w68.cell? ⟨gb373, 1, none⟩ = some (.string (⟨#[]⟩ : ByteArray)) := (blk_cell BK373.out 1).trans rfl; have hfz70_0 := blk_frozen BK373.out 0; have hfz70_1 := blk_frozen BK373.out 1))
            have n0_ : Aside0 (((w68.setCell ⟨gb373, 0, none⟩ (.string ((rd_T38 l0_4 x29_2).f0))).setCell ⟨gb373, 1, none⟩ (.string ((rd_T38 l0_4 x29_2).f1))).heap[gb368]? = some (.cells #[.string a0_0, .string a0_1, .string a0_2, .string a0_3, .slice (some ad372) l0_4.length c0_4] 25 (0, 0))) := ⟨by (with_reducible repeat (first | refine blk_drewN ?_ _ | refine blk_drew ?_ | refine blk_alloc ?_ _)); refine blk_far ?_ NB368_373.out _; (with_reducible repeat (first | refine blk_drewN ?_ _ | refine blk_drew ?_ | refine blk_alloc ?_ _)); refine blk_far ?_ NB368_373.out _; (with_reducible repeat (first | refine blk_drewN ?_ _ | refine blk_drew ?_ | refine blk_alloc ?_ _)); exact BK368.out⟩
            have n1_ : Aside0 (((w68.setCell ⟨gb373, 0, none⟩ (.string ((rd_T38 l0_4 x29_2).f0))).setCell ⟨gb373, 1, none⟩ (.string ((rd_T38 l0_4 x29_2).f1))).heap[gb373]? = some (.cells #[.string ((rd_T38 l0_4 x29_2).f0), .string ((rd_T38 l0_4 x29_2).f1)] 38 (0, 0))) := ⟨by (with_reducible repeat (first | refine blk_drewN ?_ _ | refine blk_drew ?_ | refine blk_alloc ?_ _)); refine blk_put (cs := #[.string ((rd_T38 l0_4 x29_2).f0), .string (⟨#[]⟩ : ByteArray)]) ?_ 1 _ rfl; (with_reducible repeat (first | refine blk_drewN ?_ _ | refine blk_drew ?_ | refine blk_alloc ?_ _)); refine blk_put (cs := #[.string (⟨#[]⟩ : ByteArray), .string (⟨#[]⟩ : ByteArray)]) ?_ 0 _ rfl; (with_reducible repeat (first | refine blk_drewN ?_ _ | refine blk_drew ?_ | refine blk_alloc ?_ _)); exact BK373.out⟩
            have n2_ : Aside0 (Below w.heap.size w ((w68.setCell ⟨gb373, 0, none⟩ (.string ((rd_T38 l0_4 x29_2).f0))).setCell ⟨gb373, 1, none⟩ (.string ((rd_T38 l0_4 x29_2).f1)))) := ⟨by repeat (first | (with_reducible first | exact HB.out | apply below_alloc | apply pw_below_drewN | apply below_drew1 | refine below_set ?_ GE368.out | refine below_set ?_ GE373.out) | exact HB.out)⟩
            (try clear BK368)
            (try clear BK373)
            (try clear HB)
            generalize ((w68.setCell ⟨gb373, 0, none⟩ (.string ((rd_T38 l0_4 x29_2).f0))).setCell ⟨gb373, 1, none⟩ (.string ((rd_T38 l0_4 x29_2).f1))) = w71 at n0_ n1_ n2_ ⊢
            have BK368 := n0_
            have BK373 := n1_
            have HB := n2_
            clear n0_ n1_ n2_
            have n0_ := Aside0.mk (blk_drew BK368.out)
            have n1_ := Aside0.mk (blk_drew BK373.out)
            have n2_ := Aside0.mk (below_drew1 HB.out)
            clear BK368
            clear BK373
            clear HB
            have BK368 := n0_
            have BK373 := n1_
            have HB := n2_
            clear n0_ n1_ n2_
            refine start_ (n := 20) (S := fun w' => w'.cell? ⟨gb373, 0, none⟩ = some (.string ((rd_T38 l0_4 x29_2).f0)) ∧ w'.cell? ⟨gb373, 1, none⟩ = some (.string ((rd_T38 l0_4 x29_2).f1))) (ds := []) head_Write.a0 (by kernel_rfl) rfl rfl ⟨(blk_cell BK373.out 0).trans rfl, (blk_cell BK373.out 1).trans rfl⟩ (fun hHeld => ?_); refine with_tabW head_Write.tab6 head_Write.bits6 (fun HT_ HW_ => ?_)
            generalize w71.drew = w72 at BK368 BK373 HB hHeld ⊢
            refine pure_ (i := 0) (N := some 33) (v := ?_) (a' := ?_) head_Write.a1 rfl rfl (any_of HT_.out (by kernel_rfl)) (fun _ _ _ h => h) (Or.inl ⟨by rfl, ?_⟩) ?_ ?_
            rotate_left
            ·intro w'
             go_simp
             with_reducible rfl
            rotate_left
            ·simp only [Act.put, List.setIfInBounds_toArray, List.set_cons_zero, List.set_cons_succ, i64_w, i32_w]
             rfl
            refine pure_ (i := 1) (N := some 34) (v := ?_) (a' := ?_) head_Write.a2 rfl rfl (any_of HT_.out (by kernel_rfl)) (fun _ _ _ h => h) (Or.inl ⟨by rfl, ?_⟩) ?_ ?_
            rotate_left
            ·intro w'
             go_simp
             with_reducible rfl
            rotate_left
            ·simp only [Act.put, List.setIfInBounds_toArray, List.set_cons_zero, List.set_cons_succ, i64_w, i32_w]
             rfl
            refine pure_ (i := 2) (N := some 35) (v := ?_) (a' := ?_) head_Write.a3 rfl rfl (any_of HT_.out (by kernel_rfl)) (fun _ _ _ h => h) (Or.inl ⟨by rfl, ?_⟩) ?_ ?_
            rotate_left
            ·intro w'
             go_simp
             with_reducible rfl
            rotate_left
            ·simp only [Act.put, List.setIfInBounds_toArray, List.set_cons_zero, List.set_cons_succ, i64_w, i32_w]
             rfl
            refine take_ (i := 3) (N := some 36) (v := ?_) (a' := ?_) head_Write.a4 rfl rfl (take_ofW HT_.out HW_.out (by kernel_rfl)) (fun _ _ _ h => h) (Or.inl ⟨by rfl, ?_⟩) hHeld ?_ ?_
            rotate_left
            ·rintro w' ⟨s0, s1⟩
             go_simp
             with_reducible rfl
            rotate_left
            ·simp only [Act.put, List.setIfInBounds_toArray, List.set_cons_zero, List.set_cons_succ, i64_w, i32_w]
             rfl
            refine one_ (i := 4) (N := some 37) head_Write.a5 rfl rfl (one_of HT_.out (by kernel_rfl)) (by decide) (fun K hK => ?_)
            refine goes_ Tryd.func38 (by kernel_rfl) rfl #[.string ((rd_T38 l0_4 x29_2).f0)] (by rfl) rfl rfl (by (try simp only [List.map_toArray, List.map_cons, List.map_nil]); first | done | rfl | (simp only [List.length_drop, List.length_take]; rfl)) ?_
            with_reducible refine (head_token.calls k2 ((rd_T38 l0_4 x29_2).f0) true _ A17.out).mono ?_
            rintro e w' ⟨rfl, ⟨nd, rfl⟩⟩
            refine ⟨_, rfl, ?_⟩
            refine hK.out _ _ ⟨(blk_cell BK373.out 0).trans rfl, (blk_cell BK373.out 1).trans rfl⟩ (fun hHeld => ?_)
            clear hK K
            refine norm_ (a' := ?_) ?_ ?_
            rotate_left
            ·show Act.put _ (some 37) _ = _
             simp only [Act.put, List.setIfInBounds_toArray, List.set_cons_zero, List.set_cons_succ, i64_w, i32_w]
             rfl
            refine pure_ (i := 5) (N := some 38) (v := ?_) (a' := ?_) head_Write.a6 rfl rfl (any_of HT_.out (by kernel_rfl)) (fun _ _ _ h => h) (Or.inl ⟨by rfl, ?_⟩) ?_ ?_
            rotate_left
            ·intro w'
             go_simp
             with_reducible rfl
            rotate_left
            ·simp only [Act.put, List.setIfInBounds_toArray, List.set_cons_zero, List.set_cons_succ, i64_w, i32_w]
             rfl
            refine pure_ (i := 6) (N := some 39) (v := ?_) (a' := ?_) head_Write.a7 rfl rfl (any_of HT_.out (by kernel_rfl)) (fun _ _ _ h => h) (Or.inl ⟨by rfl, ?_⟩) ?_ ?_
            rotate_left
            ·intro w'
             go_simp
             with_reducible rfl
            rotate_left
            ·simp only [Act.put, List.setIfInBounds_toArray, List.set_cons_zero, List.set_cons_succ, i64_w, i32_w]
             rfl
            refine pure_ (i := 7) (N := some 40) (v := ?_) (a' := ?_) head_Write.a8 rfl rfl (any_of HT_.out (by kernel_rfl)) (fun _ _ _ h => h) (Or.inl ⟨by rfl, ?_⟩) ?_ ?_
            rotate_left
            ·intro w'
             go_simp
             with_reducible rfl
            rotate_left
            ·simp only [Act.put, List.setIfInBounds_toArray, List.set_cons_zero, List.set_cons_succ, i64_w, i32_w]
             rfl
            refine pure_ (i := 10) (N := some 43) (v := ?_) (a' := ?_) head_Write.a9 rfl rfl (any_of HT_.out (by kernel_rfl)) (fun _ _ _ h => h) (Or.inl ⟨by rfl, ?_⟩) ?_ ?_
            rotate_left
            ·intro w'
             go_simp
             with_reducible rfl
            rotate_left
            ·simp only [Act.put, List.setIfInBounds_toArray, List.set_cons_zero, List.set_cons_succ, i64_w, i32_w]
             rfl
            refine take_ (i := 8) (N := some 41) (v := ?_) (a' := ?_) head_Write.a10 rfl rfl (take_ofW HT_.out HW_.out (by kernel_rfl)) (fun _ _ _ h => h) (Or.inl ⟨by rfl, ?_⟩) hHeld ?_ ?_
            rotate_left
            ·rintro w' ⟨s0, s1⟩
             go_simp
             with_reducible rfl
            rotate_left
            ·simp only [Act.put, List.setIfInBounds_toArray, List.set_cons_zero, List.set_cons_succ, i64_w, i32_w]
             rfl
            refine take_ (i := 11) (N := some 44) (v := ?_) (a' := ?_) head_Write.a11 rfl rfl (take_ofW HT_.out HW_.out (by kernel_rfl)) (fun _ _ _ h => h) (Or.inl ⟨by rfl, ?_⟩) hHeld ?_ ?_
            rotate_left
            ·rintro w' ⟨s0, s1⟩
             go_simp
             with_reducible rfl
            rotate_left
            ·simp only [Act.put, List.setIfInBounds_toArray, List.set_cons_zero, List.set_cons_succ, i64_w, i32_w]
             rfl
            refine one_ (i := 9) (N := some 42) head_Write.a12 rfl rfl (one_of HT_.out (by kernel_rfl)) (by decide) (fun K hK => ?_)
            refine goes_ Tryd.func41 (by kernel_rfl) rfl #[.string ((rd_T38 l0_4 x29_2).f0)] (by rfl) rfl rfl (by (try simp only [List.map_toArray, List.map_cons, List.map_nil]); first | done | rfl | (simp only [List.length_drop, List.length_take]; rfl)) ?_
            with_reducible refine (head_lower.calls ((rd_T38 l0_4 x29_2).f0) t375 _ A19.out).mono ?_
            rintro e w73 ⟨rfl, hb⟩
            refine ⟨_, rfl, ?_⟩
            have n0_ := Aside0.mk (blk_below (g := gb368) (o := .cells #[.string a0_0, .string a0_1, .string a0_2, .string a0_3, .slice (some ad372) l0_4.length c0_4] 25 (0, 0)) (by (with_reducible repeat (first | refine blk_drewN ?_ _ | refine blk_drew ?_ | refine blk_alloc ?_ _)); exact BK368.out) hb)
            have n1_ := Aside0.mk (blk_below (g := gb373) (o := .cells #[.string ((rd_T38 l0_4 x29_2).f0), .string ((rd_T38 l0_4 x29_2).f1)] 38 (0, 0)) (by (with_reducible repeat (first | refine blk_drewN ?_ _ | refine blk_drew ?_ | refine blk_alloc ?_ _)); exact BK373.out) hb)
            have n2_ := Aside0.mk (below_step (by repeat (first | (with_reducible first | exact HB.out | apply below_alloc | apply pw_below_drewN | apply below_drew1 | refine below_set ?_ GE368.out | refine below_set ?_ GE373.out) | exact HB.out)) hb)
            clear BK368
            clear BK373
            clear HB
            have BK368 := n0_
            have BK373 := n1_
            have HB := n2_
            clear n0_ n1_ n2_
            (try clear hb)
            (try clear hb2)
            (try clear hk)
            (try clear hi)
            refine hK.out _ _ ⟨(blk_cell BK373.out 0).trans rfl, (blk_cell BK373.out 1).trans rfl⟩ (fun hHeld => ?_)
            clear hK K
            refine norm_ (a' := ?_) ?_ ?_
            rotate_left
            ·show Act.put _ (some 42) _ = _
             simp only [Act.put, List.setIfInBounds_toArray, List.set_cons_zero, List.set_cons_succ, i64_w, i32_w]
             rfl
            refine pure_ (i := 12) (N := some 45) (v := ?_) (a' := ?_) head_Write.a13 rfl rfl (any_of HT_.out (by kernel_rfl)) (fun _ _ _ h => h) (Or.inl ⟨by rfl, ?_⟩) ?_ ?_
            rotate_left
            ·intro w'
             go_simp
             with_reducible rfl
            rotate_left
            ·simp only [Act.put, List.setIfInBounds_toArray, List.set_cons_zero, List.set_cons_succ, i64_w, i32_w]
             rfl
            refine pure_ (i := 13) (N := some 46) (v := ?_) (a' := ?_) head_Write.a14 rfl rfl (any_of HT_.out (by kernel_rfl)) (fun _ _ _ h => h) (Or.inl ⟨by rfl, ?_⟩) ?_ ?_
            rotate_left
            ·intro w'
             go_simp
             with_reducible rfl
            rotate_left
            ·simp only [Act.put, List.setIfInBounds_toArray, List.set_cons_zero, List.set_cons_succ, i64_w, i32_w]
             rfl
            refine pure_ (i := 14) (N := some 47) (v := ?_) (a' := ?_) head_Write.a15 rfl rfl (any_of HT_.out (by kernel_rfl)) (fun _ _ _ h => h) (Or.inl ⟨by rfl, ?_⟩) ?_ ?_
            rotate_left
            ·intro w'
             go_simp
             with_reducible rfl
            rotate_left
            ·simp only [Act.put, List.setIfInBounds_toArray, List.set_cons_zero, List.set_cons_succ, i64_w, i32_w]
             rfl
            refine pure_ (i := 15) (N := some 48) (v := undef) (a' := ?_) head_Write.a16 rfl rfl (any_of HT_.out (by kernel_rfl)) (fun _ _ _ h => h) (Or.inr ⟨by rfl, rfl⟩) ?_ ?_
            rotate_left
            ·simp only [Act.put, List.setIfInBounds_toArray, List.set_cons_zero, List.set_cons_succ, i64_w, i32_w]
             rfl
            refine pure_ (i := 16) (N := some 49) (v := undef) (a' := ?_) head_Write.a17 rfl rfl (any_of HT_.out (by kernel_rfl)) (fun _ _ _ h => h) (Or.inr ⟨by rfl, rfl⟩) ?_ ?_
            rotate_left
            ·simp only [Act.put, List.setIfInBounds_toArray, List.set_cons_zero, List.set_cons_succ, i64_w, i32_w]
             rfl
            refine pure_ (i := 17) (N := some 50) (v := undef) (a' := ?_) head_Write.a18 rfl rfl (any_of HT_.out (by kernel_rfl)) (fun _ _ _ h => h) (Or.inr ⟨by rfl, rfl⟩) ?_ ?_
            rotate_left
            ·simp only [Act.put, List.setIfInBounds_toArray, List.set_cons_zero, List.set_cons_succ, i64_w, i32_w]
             rfl
            refine pure_ (i := 18) (N := some 51) (v := ?_) (a' := ?_) head_Write.a19 rfl rfl (any_of HT_.out (by kernel_rfl)) (fun _ _ _ h => h) (Or.inl ⟨by rfl, ?_⟩) ?_ ?_
            rotate_left
            ·intro w'
             go_simp
             with_reducible rfl
            rotate_left
            ·simp only [Act.put, List.setIfInBounds_toArray, List.set_cons_zero, List.set_cons_succ, i64_w, i32_w]
             rfl
            refine pure_ (i := 19) (N := some 4) (v := ?_) (a' := ?_) head_Write.a20 rfl rfl (any_of HT_.out (by kernel_rfl)) (fun _ _ _ h => h) (Or.inl ⟨by rfl, ?_⟩) ?_ ?_
            rotate_left
            ·intro w'
             go_simp
             with_reducible rfl
            rotate_left
            ·simp only [Act.put, List.setIfInBounds_toArray, List.set_cons_zero, List.set_cons_succ, i64_w, i32_w]
             rfl
            refine done_ (done_of HT_.out (by kernel_rfl)) ?_
            have hcz74_0 : w73.cell? ⟨gb373, 0, none⟩ = some (.string ((rd_T38 l0_4 x29_2).f0)) := (blk_cell BK373.out 0).trans rfl
            have hcz74_1 : w73.cell? ⟨gb373, 1, none⟩ = some (.string ((rd_T38 l0_4 x29_2).f1)) := (blk_cell BK373.out 1).trans rfl
            have hfz74_0 := blk_frozen BK373.out 0
            have hfz74_1 := blk_frozen BK373.out 1
            try go_wp2
            go_roundg k2
            case measure => have := HJ1.out; have := HK2.out; omega
            case rel => exact ⟨(false), (x5_2), (wrap64 (x29_2 + 1)), (by first | rfl | (simp; done) | (simp [*]; done)), (by first | rfl | (simp; done) | (simp [*]; done)), (by first | rfl | (simp; done) | (simp [*]; done)), H', ⟨by have := HJ1.out; have := HK2.out; omega⟩, ⟨by (with_reducible repeat (first | refine blk_drewN ?_ _ | refine blk_drew ?_ | refine blk_alloc ?_ _)); exact BK368.out⟩, ⟨by repeat (first | (with_reducible first | exact HB.out | apply below_alloc | apply pw_below_drewN | apply below_drew1 | refine below_set ?_ GE368.out | refine below_set ?_ GE373.out) | exact HB.out)⟩⟩
         ·replace c18 := Bool.eq_false_iff.mpr c18
          subst c18
          have H1 : (if ((rd_T38 l0_4 x29_2).f0).toList = ([104, 111, 115, 116] : List UInt8) then ((head_Host.f k2 ((rd_T38 l0_4 x29_2).f1)).bind fun bt381 => (head_Write.l0 k2 false (wrap64 (x5_2 + 1)) l0_4 (l0_4.length : Int) (wrap64 (x29_2 + 1)) a0_0 a0_1 a0_2 a0_3 l0_4)) else (head_Write.l0 k2 false x5_2 l0_4 (l0_4.length : Int) (wrap64 (x29_2 + 1)) a0_0 a0_1 a0_2 a0_3 l0_4)) = some (r1, r2) := by rw [if_neg (show ¬ (false = true) by decide)] at H; exact H
          clear H
          have H := H1
          clear H1
          by_cases c75 : ((rd_T38 l0_4 x29_2).f0).toList = ([104, 111, 115, 116] : List UInt8)
          ·rw [if_pos c75] at H
           have c75b0 : (((rd_T38 l0_4 x29_2).f0).toList == ([104, 111, 115, 116] : List UInt8)) = true := beq_iff_eq.mpr c75
           have c75b1 : (((rd_T38 l0_4 x29_2).f0).toList != ([104, 111, 115, 116] : List UInt8)) = false := bne_eq_false_iff_eq.mpr c75
           clear c75
           replace H := Option.bind_eq_some_iff.mp H
           obtain ⟨⟨t381, t382⟩, A760, H⟩ := H
           replace H : (head_Write.l0 k2 false (wrap64 (x5_2 + 1)) l0_4 (l0_4.length : Int) (wrap64 (x29_2 + 1)) a0_0 a0_1 a0_2 a0_3 l0_4) = some (r1, r2) := H
           have A76 := Aside0.mk A760
           clear A760
           have H' := Aside0.mk H
           clear H
           have p372 : 0 ≤ (x29_2 : Int) := of_decide_eq_true (by first | (with_reducible assumption) | assumption)
           have q372 : x29_2 < (l0_4.length : Int) := of_decide_eq_true (by first | (with_reducible assumption) | assumption)
           obtain ⟨ad372, e372, hx372_0, hx372_1⟩ := at_T38 HR0_4.out x29_2 p372 q372
           cases e372
           replace hx372_0 := (HB.out.cell (World.block_lt_of_cell? w _ hx372_0)).trans hx372_0
           replace hx372_1 := (HB.out.cell (World.block_lt_of_cell? w _ hx372_1)).trans hx372_1
           replace p372 := eq_true p372
           replace q372 := eq_true q372
           try go_wp2_with (first | ((with_reducible refine gate_dst (N := 7) rfl ?_); (try (refine gate_guard (by rfl) ?_; dsimp only)); refine box_event ?hg (N := 7) ?hd (cs := #[.string (⟨#[]⟩ : ByteArray), .string (⟨#[]⟩ : ByteArray)]) (t := 38) ?hr ?_; (case hd => rfl); (case hg => rfl); (case hr => first | (go_simp; done) | (go_simp; rfl)); intro gb373 hg w77 hbox hb; have n0_ := Aside0.mk (blk_below (g := gb368) (o := .cells #[.string a0_0, .string a0_1, .string a0_2, .string a0_3, .slice (some ad372) l0_4.length c0_4] 25 (0, 0)) (by (with_reducible repeat (first | refine blk_drewN ?_ _ | refine blk_drew ?_ | refine blk_alloc ?_ _)); exact BK368.out) hb); have n1_ := Aside0.mk (below_step (by repeat (first | (with_reducible first | exact HB.out | apply below_alloc | apply pw_below_drewN | apply below_drew1 | refine below_set ?_ GE368.out) | exact HB.out)) hb); have n2_ := Aside0.mk (hbox); have n3_ := Aside0.mk ((by rw [hg]; exact (below_size (by repeat (first | (with_reducible first | exact HB.out | apply below_alloc | apply pw_below_drewN | apply below_drew1 | refine below_set ?_ GE368.out) | exact HB.out))) : w.heap.size ≤ gb373)); have n4_ := Aside0.mk ((by rw [hg]; exact (below_size (by repeat (first | (with_reducible first | exact HB.out | apply below_alloc | apply pw_below_drewN | apply below_drew1 | refine below_set ?_ GE368.out) | exact HB.out))) : w.heap.size ≤ gb373)); have n5_ := Aside0.mk ((by rw [hg]; exact Nat.ne_of_lt (blk_lt (g := gb368) (o := .cells #[.string a0_0, .string a0_1, .string a0_2, .string a0_3, .slice (some ad372) l0_4.length c0_4] 25 (0, 0)) (by (with_reducible repeat (first | refine blk_drewN ?_ _ | refine blk_drew ?_ | refine blk_alloc ?_ _)); exact BK368.out)) : gb368 ≠ gb373)); have n6_ := Aside0.mk ((by rw [hg]; exact Nat.ne_of_gt (blk_lt (g := gb368) (o := .cells #[.string a0_0, .string a0_1, .string a0_2, .string a0_3, .slice (some ad372) l0_4.length c0_4] 25 (0, 0)) (by (with_reducible repeat (first | refine blk_drewN ?_ _ | refine blk_drew ?_ | refine blk_alloc ?_ _)); exact BK368.out)) : gb373 ≠ gb368)); clear BK368; clear HB; have BK368 := n0_; have HB := n1_; have BK373 := n2_; have GW373 := n3_; have GE373 := n4_; have NB368_373 := n5_; have NB373_368 := n6_; clear n0_ n1_ n2_ n3_ n4_ n5_ n6_; clear hb hbox hg; have hnb78 := NB373_368.out; have hnc78 := NB368_373.out; have hcz79_0 : w77.cell? ⟨gb373, 0, none⟩ = some (.string (⟨#[]⟩ : ByteArray)) := (blk_cell BK373.out 0).trans rfl; have hcz79_1 : w77.cell? ⟨gb373, 1, none⟩ = some (.string (⟨#[]⟩ : ByteArray)) := (blk_cell BK373.out 1).trans rfl; have hfz79_0 := blk_frozen BK373.out 0; have hfz79_1 := blk_frozen BK373.out 1))
           have n0_ : Aside0 (((w77.setCell ⟨gb373, 0, none⟩ (.string ((rd_T38 l0_4 x29_2).f0))).setCell ⟨gb373, 1, none⟩ (.string ((rd_T38 l0_4 x29_2).f1))).heap[gb368]? = some (.cells #[.string a0_0, .string a0_1, .string a0_2, .string a0_3, .slice (some ad372) l0_4.length c0_4] 25 (0, 0))) := ⟨by (with_reducible repeat (first | refine blk_drewN ?_ _ | refine blk_drew ?_ | refine blk_alloc ?_ _)); refine blk_far ?_ NB368_373.out _; (with_reducible repeat (first | refine blk_drewN ?_ _ | refine blk_drew ?_ | refine blk_alloc ?_ _)); refine blk_far ?_ NB368_373.out _; (with_reducible repeat (first | refine blk_drewN ?_ _ | refine blk_drew ?_ | refine blk_alloc ?_ _)); exact BK368.out⟩
           have n1_ : Aside0 (((w77.setCell ⟨gb373, 0, none⟩ (.string ((rd_T38 l0_4 x29_2).f0))).setCell ⟨gb373, 1, none⟩ (.string ((rd_T38 l0_4 x29_2).f1))).heap[gb373]? = some (.cells #[.string ((rd_T38 l0_4 x29_2).f0), .string ((rd_T38 l0_4 x29_2).f1)] 38 (0, 0))) := ⟨by (with_reducible repeat (first | refine blk_drewN ?_ _ | refine blk_drew ?_ | refine blk_alloc ?_ _)); refine blk_put (cs := #[.string ((rd_T38 l0_4 x29_2).f0), .string (⟨#[]⟩ : ByteArray)]) ?_ 1 _ rfl; (with_reducible repeat (first | refine blk_drewN ?_ _ | refine blk_drew ?_ | refine blk_alloc ?_ _)); refine blk_put (cs := #[.string (⟨#[]⟩ : ByteArray), .string (⟨#[]⟩ : ByteArray)]) ?_ 0 _ rfl; (with_reducible repeat (first | refine blk_drewN ?_ _ | refine blk_drew ?_ | refine blk_alloc ?_ _)); exact BK373.out⟩
           have n2_ : Aside0 (Below w.heap.size w ((w77.setCell ⟨gb373, 0, none⟩ (.string ((rd_T38 l0_4 x29_2).f0))).setCell ⟨gb373, 1, none⟩ (.string ((rd_T38 l0_4 x29_2).f1)))) := ⟨by repeat (first | (with_reducible first | exact HB.out | apply below_alloc | apply pw_below_drewN | apply below_drew1 | refine below_set ?_ GE368.out | refine below_set ?_ GE373.out) | exact HB.out)⟩
           (try clear BK368)
           (try clear BK373)
           (try clear HB)
           generalize ((w77.setCell ⟨gb373, 0, none⟩ (.string ((rd_T38 l0_4 x29_2).f0))).setCell ⟨gb373, 1, none⟩ (.string ((rd_T38 l0_4 x29_2).f1))) = w80 at n0_ n1_ n2_ ⊢
           have BK368 := n0_
           have BK373 := n1_
           have HB := n2_
           clear n0_ n1_ n2_
           have n0_ := Aside0.mk (blk_drew BK368.out)
           have n1_ := Aside0.mk (blk_drew BK373.out)
           have n2_ := Aside0.mk (below_drew1 HB.out)
           clear BK368
           clear BK373
           clear HB
           have BK368 := n0_
           have BK373 := n1_
           have HB := n2_
           clear n0_ n1_ n2_
           refine start_ (n := 20) (S := fun w' => w'.cell? ⟨gb373, 0, none⟩ = some (.string ((rd_T38 l0_4 x29_2).f0)) ∧ w'.cell? ⟨gb373, 1, none⟩ = some (.string ((rd_T38 l0_4 x29_2).f1))) (ds := []) head_Write.a0 (by kernel_rfl) rfl rfl ⟨(blk_cell BK373.out 0).trans rfl, (blk_cell BK373.out 1).trans rfl⟩ (fun hHeld => ?_); refine with_tabW head_Write.tab6 head_Write.bits6 (fun HT_ HW_ => ?_)
           generalize w80.drew = w81 at BK368 BK373 HB hHeld ⊢
           refine pure_ (i := 0) (N := some 33) (v := ?_) (a' := ?_) head_Write.a1 rfl rfl (any_of HT_.out (by kernel_rfl)) (fun _ _ _ h => h) (Or.inl ⟨by rfl, ?_⟩) ?_ ?_
           rotate_left
           ·intro w'
            go_simp
            with_reducible rfl
           rotate_left
           ·simp only [Act.put, List.setIfInBounds_toArray, List.set_cons_zero, List.set_cons_succ, i64_w, i32_w]
            rfl
           refine pure_ (i := 1) (N := some 34) (v := ?_) (a' := ?_) head_Write.a2 rfl rfl (any_of HT_.out (by kernel_rfl)) (fun _ _ _ h => h) (Or.inl ⟨by rfl, ?_⟩) ?_ ?_
           rotate_left
           ·intro w'
            go_simp
            with_reducible rfl
           rotate_left
           ·simp only [Act.put, List.setIfInBounds_toArray, List.set_cons_zero, List.set_cons_succ, i64_w, i32_w]
            rfl
           refine pure_ (i := 2) (N := some 35) (v := ?_) (a' := ?_) head_Write.a3 rfl rfl (any_of HT_.out (by kernel_rfl)) (fun _ _ _ h => h) (Or.inl ⟨by rfl, ?_⟩) ?_ ?_
           rotate_left
           ·intro w'
            go_simp
            with_reducible rfl
           rotate_left
           ·simp only [Act.put, List.setIfInBounds_toArray, List.set_cons_zero, List.set_cons_succ, i64_w, i32_w]
            rfl
           refine take_ (i := 3) (N := some 36) (v := ?_) (a' := ?_) head_Write.a4 rfl rfl (take_ofW HT_.out HW_.out (by kernel_rfl)) (fun _ _ _ h => h) (Or.inl ⟨by rfl, ?_⟩) hHeld ?_ ?_
           rotate_left
           ·rintro w' ⟨s0, s1⟩
            go_simp
            with_reducible rfl
           rotate_left
           ·simp only [Act.put, List.setIfInBounds_toArray, List.set_cons_zero, List.set_cons_succ, i64_w, i32_w]
            rfl
           refine one_ (i := 4) (N := some 37) head_Write.a5 rfl rfl (one_of HT_.out (by kernel_rfl)) (by decide) (fun K hK => ?_)
           refine goes_ Tryd.func38 (by kernel_rfl) rfl #[.string ((rd_T38 l0_4 x29_2).f0)] (by rfl) rfl rfl (by (try simp only [List.map_toArray, List.map_cons, List.map_nil]); first | done | rfl | (simp only [List.length_drop, List.length_take]; rfl)) ?_
           with_reducible refine (head_token.calls k2 ((rd_T38 l0_4 x29_2).f0) false _ A17.out).mono ?_
           rintro e w' ⟨rfl, ⟨nd, rfl⟩⟩
           refine ⟨_, rfl, ?_⟩
           refine hK.out _ _ ⟨(blk_cell BK373.out 0).trans rfl, (blk_cell BK373.out 1).trans rfl⟩ (fun hHeld => ?_)
           clear hK K
           refine norm_ (a' := ?_) ?_ ?_
           rotate_left
           ·show Act.put _ (some 37) _ = _
            simp only [Act.put, List.setIfInBounds_toArray, List.set_cons_zero, List.set_cons_succ, i64_w, i32_w]
            rfl
           refine pure_ (i := 5) (N := some 38) (v := ?_) (a' := ?_) head_Write.a6 rfl rfl (any_of HT_.out (by kernel_rfl)) (fun _ _ _ h => h) (Or.inl ⟨by rfl, ?_⟩) ?_ ?_
           rotate_left
           ·intro w'
            go_simp
            with_reducible rfl
           rotate_left
           ·simp only [Act.put, List.setIfInBounds_toArray, List.set_cons_zero, List.set_cons_succ, i64_w, i32_w]
            rfl
           refine pure_ (i := 6) (N := some 39) (v := ?_) (a' := ?_) head_Write.a7 rfl rfl (any_of HT_.out (by kernel_rfl)) (fun _ _ _ h => h) (Or.inl ⟨by rfl, ?_⟩) ?_ ?_
           rotate_left
           ·intro w'
            go_simp
            with_reducible rfl
           rotate_left
           ·simp only [Act.put, List.setIfInBounds_toArray, List.set_cons_zero, List.set_cons_succ, i64_w, i32_w]
            rfl
           refine pure_ (i := 7) (N := some 40) (v := undef) (a' := ?_) head_Write.a8 rfl rfl (any_of HT_.out (by kernel_rfl)) (fun _ _ _ h => h) (Or.inr ⟨by rfl, rfl⟩) ?_ ?_
           rotate_left
           ·simp only [Act.put, List.setIfInBounds_toArray, List.set_cons_zero, List.set_cons_succ, i64_w, i32_w]
            rfl
           refine pure_ (i := 8) (N := some 41) (v := undef) (a' := ?_) head_Write.a21 rfl rfl (any_of HT_.out (by kernel_rfl)) (fun _ _ _ h => h) (Or.inr ⟨by rfl, rfl⟩) ?_ ?_
           rotate_left
           ·simp only [Act.put, List.setIfInBounds_toArray, List.set_cons_zero, List.set_cons_succ, i64_w, i32_w]
            rfl
           refine pure_ (i := 9) (N := some 42) (v := undef) (a' := ?_) head_Write.a22 rfl rfl (any_of HT_.out (by kernel_rfl)) (fun _ _ _ h => h) (Or.inr ⟨by rfl, rfl⟩) ?_ ?_
           rotate_left
           ·simp only [Act.put, List.setIfInBounds_toArray, List.set_cons_zero, List.set_cons_succ, i64_w, i32_w]
            rfl
           refine pure_ (i := 10) (N := some 43) (v := undef) (a' := ?_) head_Write.a23 rfl rfl (any_of HT_.out (by kernel_rfl)) (fun _ _ _ h => h) (Or.inr ⟨by rfl, rfl⟩) ?_ ?_
           rotate_left
           ·simp only [Act.put, List.setIfInBounds_toArray, List.set_cons_zero, List.set_cons_succ, i64_w, i32_w]
            rfl
           refine pure_ (i := 11) (N := some 44) (v := undef) (a' := ?_) head_Write.a12 rfl rfl (any_of HT_.out (by kernel_rfl)) (fun _ _ _ h => h) (Or.inr ⟨by rfl, rfl⟩) ?_ ?_
           rotate_left
           ·simp only [Act.put, List.setIfInBounds_toArray, List.set_cons_zero, List.set_cons_succ, i64_w, i32_w]
            rfl
           refine pure_ (i := 12) (N := some 45) (v := undef) (a' := ?_) head_Write.a13 rfl rfl (any_of HT_.out (by kernel_rfl)) (fun _ _ _ h => h) (Or.inr ⟨by rfl, rfl⟩) ?_ ?_
           rotate_left
           ·simp only [Act.put, List.setIfInBounds_toArray, List.set_cons_zero, List.set_cons_succ, i64_w, i32_w]
            rfl
           refine pure_ (i := 13) (N := some 46) (v := ?_) (a' := ?_) head_Write.a14 rfl rfl (any_of HT_.out (by kernel_rfl)) (fun _ _ _ h => h) (Or.inl ⟨by rfl, ?_⟩) ?_ ?_
           rotate_left
           ·intro w'
            go_simp
            with_reducible rfl
           rotate_left
           ·simp only [Act.put, List.setIfInBounds_toArray, List.set_cons_zero, List.set_cons_succ, i64_w, i32_w]
            rfl
           refine pure_ (i := 14) (N := some 47) (v := ?_) (a' := ?_) head_Write.a15 rfl rfl (any_of HT_.out (by kernel_rfl)) (fun _ _ _ h => h) (Or.inl ⟨by rfl, ?_⟩) ?_ ?_
           rotate_left
           ·intro w'
            go_simp
            with_reducible rfl
           rotate_left
           ·simp only [Act.put, List.setIfInBounds_toArray, List.set_cons_zero, List.set_cons_succ, i64_w, i32_w]
            rfl
           refine pure_ (i := 15) (N := some 48) (v := undef) (a' := ?_) head_Write.a16 rfl rfl (any_of HT_.out (by kernel_rfl)) (fun _ _ _ h => h) (Or.inr ⟨by rfl, rfl⟩) ?_ ?_
           rotate_left
           ·simp only [Act.put, List.setIfInBounds_toArray, List.set_cons_zero, List.set_cons_succ, i64_w, i32_w]
            rfl
           refine pure_ (i := 16) (N := some 49) (v := undef) (a' := ?_) head_Write.a17 rfl rfl (any_of HT_.out (by kernel_rfl)) (fun _ _ _ h => h) (Or.inr ⟨by rfl, rfl⟩) ?_ ?_
           rotate_left
           ·simp only [Act.put, List.setIfInBounds_toArray, List.set_cons_zero, List.set_cons_succ, i64_w, i32_w]
            rfl
           refine pure_ (i := 17) (N := some 50) (v := undef) (a' := ?_) head_Write.a18 rfl rfl (any_of HT_.out (by kernel_rfl)) (fun _ _ _ h => h) (Or.inr ⟨by rfl, rfl⟩) ?_ ?_
           rotate_left
           ·simp only [Act.put, List.setIfInBounds_toArray, List.set_cons_zero, List.set_cons_succ, i64_w, i32_w]
            rfl
           refine pure_ (i := 18) (N := some 51) (v := ?_) (a' := ?_) head_Write.a19 rfl rfl (any_of HT_.out (by kernel_rfl)) (fun _ _ _ h => h) (Or.inl ⟨by rfl, ?_⟩) ?_ ?_
           rotate_left
           ·intro w'
            go_simp
            with_reducible rfl
           rotate_left
           ·simp only [Act.put, List.setIfInBounds_toArray, List.set_cons_zero, List.set_cons_succ, i64_w, i32_w]
            rfl
           refine pure_ (i := 19) (N := some 4) (v := ?_) (a' := ?_) head_Write.a20 rfl rfl (any_of HT_.out (by kernel_rfl)) (fun _ _ _ h => h) (Or.inl ⟨by rfl, ?_⟩) ?_ ?_
           rotate_left
           ·intro w'
            go_simp
            with_reducible rfl
           rotate_left
           ·simp only [Act.put, List.setIfInBounds_toArray, List.set_cons_zero, List.set_cons_succ, i64_w, i32_w]
            rfl
           refine done_ (done_of HT_.out (by kernel_rfl)) ?_
           have hcz82_0 : w81.cell? ⟨gb373, 0, none⟩ = some (.string ((rd_T38 l0_4 x29_2).f0)) := (blk_cell BK373.out 0).trans rfl
           have hcz82_1 : w81.cell? ⟨gb373, 1, none⟩ = some (.string ((rd_T38 l0_4 x29_2).f1)) := (blk_cell BK373.out 1).trans rfl
           have hfz82_0 := blk_frozen BK373.out 0
           have hfz82_1 := blk_frozen BK373.out 1
           try go_wp2_with (first | ((with_reducible refine gate_callee (f := 18) rfl ?_); refine goesL_ (some 60) rfl rfl Tryd.func18 (by kernel_rfl) rfl #[.string ((rd_T38 l0_4 x29_2).f1)] rfl (by (try simp only [List.map_toArray, List.map_cons, List.map_nil]); first | done | rfl | (simp only [List.length_drop, List.length_take]; rfl)) ?_; (with_reducible refine (head_Host.calls k2 ((rd_T38 l0_4 x29_2).f1) t381 t382 _ ?side1 A76.out).mono ?_); (case side1 => exact ML.keep HML.out (by repeat (first | (with_reducible first | exact HB.out | apply below_alloc | apply pw_below_drewN | apply below_drew1 | refine below_set ?_ GE368.out | refine below_set ?_ GE373.out) | exact HB.out))); rintro e w83 ⟨rfl, hb⟩; refine ⟨_, rfl, ?_⟩; have n0_ := Aside0.mk (blk_below (g := gb368) (o := .cells #[.string a0_0, .string a0_1, .string a0_2, .string a0_3, .slice (some ad372) l0_4.length c0_4] 25 (0, 0)) (by (with_reducible repeat (first | refine blk_drewN ?_ _ | refine blk_drew ?_ | refine blk_alloc ?_ _)); exact BK368.out) hb); have n1_ := Aside0.mk (blk_below (g := gb373) (o := .cells #[.string ((rd_T38 l0_4 x29_2).f0), .string ((rd_T38 l0_4 x29_2).f1)] 38 (0, 0)) (by (with_reducible repeat (first | refine blk_drewN ?_ _ | refine blk_drew ?_ | refine blk_alloc ?_ _)); exact BK373.out) hb); have n2_ := Aside0.mk (below_step (by repeat (first | (with_reducible first | exact HB.out | apply below_alloc | apply pw_below_drewN | apply below_drew1 | refine below_set ?_ GE368.out | refine below_set ?_ GE373.out) | exact HB.out)) hb); clear BK368; clear BK373; clear HB; have BK368 := n0_; have BK373 := n1_; have HB := n2_; clear n0_ n1_ n2_; (try clear hb); (try clear hb2); (try clear hk); (try clear hi)))
           go_roundg k2
           case measure => have := HJ1.out; have := HK2.out; omega
           case rel => exact ⟨(false), (wrap64 (x5_2 + 1)), (wrap64 (x29_2 + 1)), (by first | rfl | (simp; done) | (simp [*]; done)), (by first | rfl | (simp; done) | (simp [*]; done)), (by first | rfl | (simp; done) | (simp [*]; done)), H', ⟨by have := HJ1.out; have := HK2.out; omega⟩, ⟨by (with_reducible repeat (first | refine blk_drewN ?_ _ | refine blk_drew ?_ | refine blk_alloc ?_ _)); exact BK368.out⟩, ⟨by repeat (first | (with_reducible first | exact HB.out | apply below_alloc | apply pw_below_drewN | apply below_drew1 | refine below_set ?_ GE368.out | refine below_set ?_ GE373.out) | exact HB.out)⟩⟩
          ·rw [if_neg c75] at H
           have c75b0 : (((rd_T38 l0_4 x29_2).f0).toList == ([104, 111, 115, 116] : List UInt8)) = false := beq_eq_false_iff_ne.mpr c75
           have c75b1 : (((rd_T38 l0_4 x29_2).f0).toList != ([104, 111, 115, 116] : List UInt8)) = true := bne_iff_ne.mpr c75
           have H' := Aside0.mk H
           clear H
           have p372 : 0 ≤ (x29_2 : Int) := of_decide_eq_true (by first | (with_reducible assumption) | assumption)
           have q372 : x29_2 < (l0_4.length : Int) := of_decide_eq_true (by first | (with_reducible assumption) | assumption)
           obtain ⟨ad372, e372, hx372_0, hx372_1⟩ := at_T38 HR0_4.out x29_2 p372 q372
           cases e372
           replace hx372_0 := (HB.out.cell (World.block_lt_of_cell? w _ hx372_0)).trans hx372_0
           replace hx372_1 := (HB.out.cell (World.block_lt_of_cell? w _ hx372_1)).trans hx372_1
           replace p372 := eq_true p372
           replace q372 := eq_true q372
           try go_wp2_with (first | ((with_reducible refine gate_dst (N := 7) rfl ?_); (try (refine gate_guard (by rfl) ?_; dsimp only)); refine box_event ?hg (N := 7) ?hd (cs := #[.string (⟨#[]⟩ : ByteArray), .string (⟨#[]⟩ : ByteArray)]) (t := 38) ?hr ?_; (case hd => rfl); (case hg => rfl); (case hr => first | (go_simp; done) | (go_simp; rfl)); intro gb373 hg w84 hbox hb; have n0_ := Aside0.mk (blk_below (g := gb368) (o := .cells #[.string a0_0, .string a0_1, .string a0_2, .string a0_3, .slice (some ad372) l0_4.length c0_4] 25 (0, 0)) (by (with_reducible repeat (first | refine blk_drewN ?_ _ | refine blk_drew ?_ | refine blk_alloc ?_ _)); exact BK368.out) hb); have n1_ := Aside0.mk (below_step (by repeat (first | (with_reducible first | exact HB.out | apply below_alloc | apply pw_below_drewN | apply below_drew1 | refine below_set ?_ GE368.out) | exact HB.out)) hb); have n2_ := Aside0.mk (hbox); have n3_ := Aside0.mk ((by rw [hg]; exact (below_size (by repeat (first | (with_reducible first | exact HB.out | apply below_alloc | apply pw_below_drewN | apply below_drew1 | refine below_set ?_ GE368.out) | exact HB.out))) : w.heap.size ≤ gb373)); have n4_ := Aside0.mk ((by rw [hg]; exact (below_size (by repeat (first | (with_reducible first | exact HB.out | apply below_alloc | apply pw_below_drewN | apply below_drew1 | refine below_set ?_ GE368.out) | exact HB.out))) : w.heap.size ≤ gb373)); have n5_ := Aside0.mk ((by rw [hg]; exact Nat.ne_of_lt (blk_lt (g := gb368) (o := .cells #[.string a0_0, .string a0_1, .string a0_2, .string a0_3, .slice (some ad372) l0_4.length c0_4] 25 (0, 0)) (by (with_reducible repeat (first | refine blk_drewN ?_ _ | refine blk_drew ?_ | refine blk_alloc ?_ _)); exact BK368.out)) : gb368 ≠ gb373)); have n6_ := Aside0.mk ((by rw [hg]; exact Nat.ne_of_gt (blk_lt (g := gb368) (o := .cells #[.string a0_0, .string a0_1, .string a0_2, .string a0_3, .slice (some ad372) l0_4.length c0_4] 25 (0, 0)) (by (with_reducible repeat (first | refine blk_drewN ?_ _ | refine blk_drew ?_ | refine blk_alloc ?_ _)); exact BK368.out)) : gb373 ≠ gb368)); clear BK368; clear HB; have BK368 := n0_; have HB := n1_; have BK373 := n2_; have GW373 := n3_; have GE373 := n4_; have NB368_373 := n5_; have NB373_368 := n6_; clear n0_ n1_ n2_ n3_ n4_ n5_ n6_; clear hb hbox hg; have hnb85 := NB373_368.out; have hnc85 := NB368_373.out; have hcz86_0 : w84.cell? ⟨gb373, 0, none⟩ = some (.string (⟨#[]⟩ : ByteArray)) := (blk_cell BK373.out 0).trans rfl; have hcz86_1 : w84.cell? ⟨gb373, 1, none⟩ = some (.string (⟨#[]⟩ : ByteArray)) := (blk_cell BK373.out 1).trans rfl; have hfz86_0 := blk_frozen BK373.out 0; have hfz86_1 := blk_frozen BK373.out 1))
           have n0_ : Aside0 (((w84.setCell ⟨gb373, 0, none⟩ (.string ((rd_T38 l0_4 x29_2).f0))).setCell ⟨gb373, 1, none⟩ (.string ((rd_T38 l0_4 x29_2).f1))).heap[gb368]? = some (.cells #[.string a0_0, .string a0_1, .string a0_2, .string a0_3, .slice (some ad372) l0_4.length c0_4] 25 (0, 0))) := ⟨by (with_reducible repeat (first | refine blk_drewN ?_ _ | refine blk_drew ?_ | refine blk_alloc ?_ _)); refine blk_far ?_ NB368_373.out _; (with_reducible repeat (first | refine blk_drewN ?_ _ | refine blk_drew ?_ | refine blk_alloc ?_ _)); refine blk_far ?_ NB368_373.out _; (with_reducible repeat (first | refine blk_drewN ?_ _ | refine blk_drew ?_ | refine blk_alloc ?_ _)); exact BK368.out⟩
           have n1_ : Aside0 (((w84.setCell ⟨gb373, 0, none⟩ (.string ((rd_T38 l0_4 x29_2).f0))).setCell ⟨gb373, 1, none⟩ (.string ((rd_T38 l0_4 x29_2).f1))).heap[gb373]? = some (.cells #[.string ((rd_T38 l0_4 x29_2).f0), .string ((rd_T38 l0_4 x29_2).f1)] 38 (0, 0))) := ⟨by (with_reducible repeat (first | refine blk_drewN ?_ _ | refine blk_drew ?_ | refine blk_alloc ?_ _)); refine blk_put (cs := #[.string ((rd_T38 l0_4 x29_2).f0), .string (⟨#[]⟩ : ByteArray)]) ?_ 1 _ rfl; (with_reducible repeat (first | refine blk_drewN ?_ _ | refine blk_drew ?_ | refine blk_alloc ?_ _)); refine blk_put (cs := #[.string (⟨#[]⟩ : ByteArray), .string (⟨#[]⟩ : ByteArray)]) ?_ 0 _ rfl; (with_reducible repeat (first | refine blk_drewN ?_ _ | refine blk_drew ?_ | refine blk_alloc ?_ _)); exact BK373.out⟩
           have n2_ : Aside0 (Below w.heap.size w ((w84.setCell ⟨gb373, 0, none⟩ (.string ((rd_T38 l0_4 x29_2).f0))).setCell ⟨gb373, 1, none⟩ (.string ((rd_T38 l0_4 x29_2).f1)))) := ⟨by repeat (first | (with_reducible first | exact HB.out | apply below_alloc | apply pw_below_drewN | apply below_drew1 | refine below_set ?_ GE368.out | refine below_set ?_ GE373.out) | exact HB.out)⟩
           (try clear BK368)
           (try clear BK373)
           (try clear HB)
           generalize ((w84.setCell ⟨gb373, 0, none⟩ (.string ((rd_T38 l0_4 x29_2).f0))).setCell ⟨gb373, 1, none⟩ (.string ((rd_T38 l0_4 x29_2).f1))) = w87 at n0_ n1_ n2_ ⊢
           have BK368 := n0_
           have BK373 := n1_
           have HB := n2_
           clear n0_ n1_ n2_
           have n0_ := Aside0.mk (blk_drew BK368.out)
           have n1_ := Aside0.mk (blk_drew BK373.out)
           have n2_ := Aside0.mk (below_drew1 HB.out)
           clear BK368
           clear BK373
           clear HB
           have BK368 := n0_
           have BK373 := n1_
           have HB := n2_
           clear n0_ n1_ n2_
           refine start_ (n := 20) (S := fun w' => w'.cell? ⟨gb373, 0, none⟩ = some (.string ((rd_T38 l0_4 x29_2).f0)) ∧ w'.cell? ⟨gb373, 1, none⟩ = some (.string ((rd_T38 l0_4 x29_2).f1))) (ds := []) head_Write.a0 (by kernel_rfl) rfl rfl ⟨(blk_cell BK373.out 0).trans rfl, (blk_cell BK373.out 1).trans rfl⟩ (fun hHeld => ?_); refine with_tabW head_Write.tab6 head_Write.bits6 (fun HT_ HW_ => ?_)
           generalize w87.drew = w88 at BK368 BK373 HB hHeld ⊢
           refine pure_ (i := 0) (N := some 33) (v := ?_) (a' := ?_) head_Write.a1 rfl rfl (any_of HT_.out (by kernel_rfl)) (fun _ _ _ h => h) (Or.inl ⟨by rfl, ?_⟩) ?_ ?_
           rotate_left
           ·intro w'
            go_simp
            with_reducible rfl
           rotate_left
           ·simp only [Act.put, List.setIfInBounds_toArray, List.set_cons_zero, List.set_cons_succ, i64_w, i32_w]
            rfl
           refine pure_ (i := 1) (N := some 34) (v := ?_) (a' := ?_) head_Write.a2 rfl rfl (any_of HT_.out (by kernel_rfl)) (fun _ _ _ h => h) (Or.inl ⟨by rfl, ?_⟩) ?_ ?_
           rotate_left
           ·intro w'
            go_simp
            with_reducible rfl
           rotate_left
           ·simp only [Act.put, List.setIfInBounds_toArray, List.set_cons_zero, List.set_cons_succ, i64_w, i32_w]
            rfl
           refine pure_ (i := 2) (N := some 35) (v := ?_) (a' := ?_) head_Write.a3 rfl rfl (any_of HT_.out (by kernel_rfl)) (fun _ _ _ h => h) (Or.inl ⟨by rfl, ?_⟩) ?_ ?_
           rotate_left
           ·intro w'
            go_simp
            with_reducible rfl
           rotate_left
           ·simp only [Act.put, List.setIfInBounds_toArray, List.set_cons_zero, List.set_cons_succ, i64_w, i32_w]
            rfl
           refine take_ (i := 3) (N := some 36) (v := ?_) (a' := ?_) head_Write.a4 rfl rfl (take_ofW HT_.out HW_.out (by kernel_rfl)) (fun _ _ _ h => h) (Or.inl ⟨by rfl, ?_⟩) hHeld ?_ ?_
           rotate_left
           ·rintro w' ⟨s0, s1⟩
            go_simp
            with_reducible rfl
           rotate_left
           ·simp only [Act.put, List.setIfInBounds_toArray, List.set_cons_zero, List.set_cons_succ, i64_w, i32_w]
            rfl
           refine one_ (i := 4) (N := some 37) head_Write.a5 rfl rfl (one_of HT_.out (by kernel_rfl)) (by decide) (fun K hK => ?_)
           refine goes_ Tryd.func38 (by kernel_rfl) rfl #[.string ((rd_T38 l0_4 x29_2).f0)] (by rfl) rfl rfl (by (try simp only [List.map_toArray, List.map_cons, List.map_nil]); first | done | rfl | (simp only [List.length_drop, List.length_take]; rfl)) ?_
           with_reducible refine (head_token.calls k2 ((rd_T38 l0_4 x29_2).f0) false _ A17.out).mono ?_
           rintro e w' ⟨rfl, ⟨nd, rfl⟩⟩
           refine ⟨_, rfl, ?_⟩
           refine hK.out _ _ ⟨(blk_cell BK373.out 0).trans rfl, (blk_cell BK373.out 1).trans rfl⟩ (fun hHeld => ?_)
           clear hK K
           refine norm_ (a' := ?_) ?_ ?_
           rotate_left
           ·show Act.put _ (some 37) _ = _
            simp only [Act.put, List.setIfInBounds_toArray, List.set_cons_zero, List.set_cons_succ, i64_w, i32_w]
            rfl
           refine pure_ (i := 5) (N := some 38) (v := ?_) (a' := ?_) head_Write.a6 rfl rfl (any_of HT_.out (by kernel_rfl)) (fun _ _ _ h => h) (Or.inl ⟨by rfl, ?_⟩) ?_ ?_
           rotate_left
           ·intro w'
            go_simp
            with_reducible rfl
           rotate_left
           ·simp only [Act.put, List.setIfInBounds_toArray, List.set_cons_zero, List.set_cons_succ, i64_w, i32_w]
            rfl
           refine pure_ (i := 6) (N := some 39) (v := ?_) (a' := ?_) head_Write.a7 rfl rfl (any_of HT_.out (by kernel_rfl)) (fun _ _ _ h => h) (Or.inl ⟨by rfl, ?_⟩) ?_ ?_
           rotate_left
           ·intro w'
            go_simp
            with_reducible rfl
           rotate_left
           ·simp only [Act.put, List.setIfInBounds_toArray, List.set_cons_zero, List.set_cons_succ, i64_w, i32_w]
            rfl
           refine pure_ (i := 7) (N := some 40) (v := undef) (a' := ?_) head_Write.a8 rfl rfl (any_of HT_.out (by kernel_rfl)) (fun _ _ _ h => h) (Or.inr ⟨by rfl, rfl⟩) ?_ ?_
           rotate_left
           ·simp only [Act.put, List.setIfInBounds_toArray, List.set_cons_zero, List.set_cons_succ, i64_w, i32_w]
            rfl
           refine pure_ (i := 8) (N := some 41) (v := undef) (a' := ?_) head_Write.a21 rfl rfl (any_of HT_.out (by kernel_rfl)) (fun _ _ _ h => h) (Or.inr ⟨by rfl, rfl⟩) ?_ ?_
           rotate_left
           ·simp only [Act.put, List.setIfInBounds_toArray, List.set_cons_zero, List.set_cons_succ, i64_w, i32_w]
            rfl
           refine pure_ (i := 9) (N := some 42) (v := undef) (a' := ?_) head_Write.a22 rfl rfl (any_of HT_.out (by kernel_rfl)) (fun _ _ _ h => h) (Or.inr ⟨by rfl, rfl⟩) ?_ ?_
           rotate_left
           ·simp only [Act.put, List.setIfInBounds_toArray, List.set_cons_zero, List.set_cons_succ, i64_w, i32_w]
            rfl
           refine pure_ (i := 10) (N := some 43) (v := undef) (a' := ?_) head_Write.a23 rfl rfl (any_of HT_.out (by kernel_rfl)) (fun _ _ _ h => h) (Or.inr ⟨by rfl, rfl⟩) ?_ ?_
           rotate_left
           ·simp only [Act.put, List.setIfInBounds_toArray, List.set_cons_zero, List.set_cons_succ, i64_w, i32_w]
            rfl
           refine pure_ (i := 11) (N := some 44) (v := undef) (a' := ?_) head_Write.a12 rfl rfl (any_of HT_.out (by kernel_rfl)) (fun _ _ _ h => h) (Or.inr ⟨by rfl, rfl⟩) ?_ ?_
           rotate_left
           ·simp only [Act.put, List.setIfInBounds_toArray, List.set_cons_zero, List.set_cons_succ, i64_w, i32_w]
            rfl
           refine pure_ (i := 12) (N := some 45) (v := undef) (a' := ?_) head_Write.a13 rfl rfl (any_of HT_.out (by kernel_rfl)) (fun _ _ _ h => h) (Or.inr ⟨by rfl, rfl⟩) ?_ ?_
           rotate_left
           ·simp only [Act.put, List.setIfInBounds_toArray, List.set_cons_zero, List.set_cons_succ, i64_w, i32_w]
            rfl
           refine pure_ (i := 13) (N := some 46) (v := ?_) (a' := ?_) head_Write.a14 rfl rfl (any_of HT_.out (by kernel_rfl)) (fun _ _ _ h => h) (Or.inl ⟨by rfl, ?_⟩) ?_ ?_
           rotate_left
           ·intro w'
            go_simp
            with_reducible rfl
           rotate_left
           ·simp only [Act.put, List.setIfInBounds_toArray, List.set_cons_zero, List.set_cons_succ, i64_w, i32_w]
            rfl
           refine pure_ (i := 14) (N := some 47) (v := ?_) (a' := ?_) head_Write.a15 rfl rfl (any_of HT_.out (by kernel_rfl)) (fun _ _ _ h => h) (Or.inl ⟨by rfl, ?_⟩) ?_ ?_
           rotate_left
           ·intro w'
            go_simp
            with_reducible rfl
           rotate_left
           ·simp only [Act.put, List.setIfInBounds_toArray, List.set_cons_zero, List.set_cons_succ, i64_w, i32_w]
            rfl
           refine pure_ (i := 15) (N := some 48) (v := undef) (a' := ?_) head_Write.a16 rfl rfl (any_of HT_.out (by kernel_rfl)) (fun _ _ _ h => h) (Or.inr ⟨by rfl, rfl⟩) ?_ ?_
           rotate_left
           ·simp only [Act.put, List.setIfInBounds_toArray, List.set_cons_zero, List.set_cons_succ, i64_w, i32_w]
            rfl
           refine pure_ (i := 16) (N := some 49) (v := undef) (a' := ?_) head_Write.a17 rfl rfl (any_of HT_.out (by kernel_rfl)) (fun _ _ _ h => h) (Or.inr ⟨by rfl, rfl⟩) ?_ ?_
           rotate_left
           ·simp only [Act.put, List.setIfInBounds_toArray, List.set_cons_zero, List.set_cons_succ, i64_w, i32_w]
            rfl
           refine pure_ (i := 17) (N := some 50) (v := undef) (a' := ?_) head_Write.a18 rfl rfl (any_of HT_.out (by kernel_rfl)) (fun _ _ _ h => h) (Or.inr ⟨by rfl, rfl⟩) ?_ ?_
           rotate_left
           ·simp only [Act.put, List.setIfInBounds_toArray, List.set_cons_zero, List.set_cons_succ, i64_w, i32_w]
            rfl
           refine pure_ (i := 18) (N := some 51) (v := ?_) (a' := ?_) head_Write.a19 rfl rfl (any_of HT_.out (by kernel_rfl)) (fun _ _ _ h => h) (Or.inl ⟨by rfl, ?_⟩) ?_ ?_
           rotate_left
           ·intro w'
            go_simp
            with_reducible rfl
           rotate_left
           ·simp only [Act.put, List.setIfInBounds_toArray, List.set_cons_zero, List.set_cons_succ, i64_w, i32_w]
            rfl
           refine pure_ (i := 19) (N := some 4) (v := ?_) (a' := ?_) head_Write.a20 rfl rfl (any_of HT_.out (by kernel_rfl)) (fun _ _ _ h => h) (Or.inl ⟨by rfl, ?_⟩) ?_ ?_
           rotate_left
           ·intro w'
            go_simp
            with_reducible rfl
           rotate_left
           ·simp only [Act.put, List.setIfInBounds_toArray, List.set_cons_zero, List.set_cons_succ, i64_w, i32_w]
            rfl
           refine done_ (done_of HT_.out (by kernel_rfl)) ?_
           have hcz89_0 : w88.cell? ⟨gb373, 0, none⟩ = some (.string ((rd_T38 l0_4 x29_2).f0)) := (blk_cell BK373.out 0).trans rfl
           have hcz89_1 : w88.cell? ⟨gb373, 1, none⟩ = some (.string ((rd_T38 l0_4 x29_2).f1)) := (blk_cell BK373.out 1).trans rfl
           have hfz89_0 := blk_frozen BK373.out 0
           have hfz89_1 := blk_frozen BK373.out 1
           try go_wp2
           go_roundg k2
           case measure => have := HJ1.out; have := HK2.out; omega
           case rel => exact ⟨(false), (x5_2), (wrap64 (x29_2 + 1)), (by first | rfl | (simp; done) | (simp [*]; done)), (by first | rfl | (simp; done) | (simp [*]; done)), (by first | rfl | (simp; done) | (simp [*]; done)), H', ⟨by have := HJ1.out; have := HK2.out; omega⟩, ⟨by (with_reducible repeat (first | refine blk_drewN ?_ _ | refine blk_drew ?_ | refine blk_alloc ?_ _)); exact BK368.out⟩, ⟨by repeat (first | (with_reducible first | exact HB.out | apply below_alloc | apply pw_below_drewN | apply below_drew1 | refine below_set ?_ GE368.out | refine below_set ?_ GE373.out) | exact HB.out)⟩⟩
        ·replace c16 := Bool.eq_false_iff.mpr c16
         subst c16
         have H1 : (if ((rd_T38 l0_4 x29_2).f0).toList = ([104, 111, 115, 116] : List UInt8) then ((head_Host.f k2 ((rd_T38 l0_4 x29_2).f1)).bind fun bt383 => (head_Write.l0 k2 false (wrap64 (x5_2 + 1)) l0_4 (l0_4.length : Int) (wrap64 (x29_2 + 1)) a0_0 a0_1 a0_2 a0_3 l0_4)) else (head_Write.l0 k2 false x5_2 l0_4 (l0_4.length : Int) (wrap64 (x29_2 + 1)) a0_0 a0_1 a0_2 a0_3 l0_4)) = some (r1, r2) := by rw [if_neg (show ¬ (false = true) by decide)] at H; exact H
         clear H
         have H := H1
         clear H1
         by_cases c90 : ((rd_T38 l0_4 x29_2).f0).toList = ([104, 111, 115, 116] : List UInt8)
         ·rw [if_pos c90] at H
          have c90b0 : (((rd_T38 l0_4 x29_2).f0).toList == ([104, 111, 115, 116] : List UInt8)) = true := beq_iff_eq.mpr c90
          have c90b1 : (((rd_T38 l0_4 x29_2).f0).toList != ([104, 111, 115, 116] : List UInt8)) = false := bne_eq_false_iff_eq.mpr c90
          clear c90
          replace H := Option.bind_eq_some_iff.mp H
          obtain ⟨⟨t383, t384⟩, A910, H⟩ := H
          replace H : (head_Write.l0 k2 false (wrap64 (x5_2 + 1)) l0_4 (l0_4.length : Int) (wrap64 (x29_2 + 1)) a0_0 a0_1 a0_2 a0_3 l0_4) = some (r1, r2) := H
          have A91 := Aside0.mk A910
          clear A910
          have H' := Aside0.mk H
          clear H
          have p372 : 0 ≤ (x29_2 : Int) := of_decide_eq_true (by first | (with_reducible assumption) | assumption)
          have q372 : x29_2 < (l0_4.length : Int) := of_decide_eq_true (by first | (with_reducible assumption) | assumption)
          obtain ⟨ad372, e372, hx372_0, hx372_1⟩ := at_T38 HR0_4.out x29_2 p372 q372
          cases e372
          replace hx372_0 := (HB.out.cell (World.block_lt_of_cell? w _ hx372_0)).trans hx372_0
          replace hx372_1 := (HB.out.cell (World.block_lt_of_cell? w _ hx372_1)).trans hx372_1
          replace p372 := eq_true p372
          replace q372 := eq_true q372
          try go_wp2_with (first | ((with_reducible refine gate_dst (N := 7) rfl ?_); (try (refine gate_guard (by rfl) ?_; dsimp only)); refine box_event ?hg (N := 7) ?hd (cs := #[.string (⟨#[]⟩ : ByteArray), .string (⟨#[]⟩ : ByteArray)]) (t := 38) ?hr ?_; (case hd => rfl); (case hg => rfl); (case hr => first | (go_simp; done) | (go_simp; rfl)); intro gb373 hg w92 hbox hb; have n0_ := Aside0.mk (blk_below (g := gb368) (o := .cells #[.string a0_0, .string a0_1, .string a0_2, .string a0_3, .slice (some ad372) l0_4.length c0_4] 25 (0, 0)) (by (with_reducible repeat (first | refine blk_drewN ?_ _ | refine blk_drew ?_ | refine blk_alloc ?_ _)); exact BK368.out) hb); have n1_ := Aside0.mk (below_step (by repeat (first | (with_reducible first | exact HB.out | apply below_alloc | apply pw_below_drewN | apply below_drew1 | refine below_set ?_ GE368.out) | exact HB.out)) hb); have n2_ := Aside0.mk (hbox); have n3_ := Aside0.mk ((by rw [hg]; exact (below_size (by repeat (first | (with_reducible first | exact HB.out | apply below_alloc | apply pw_below_drewN | apply below_drew1 | refine below_set ?_ GE368.out) | exact HB.out))) : w.heap.size ≤ gb373)); have n4_ := Aside0.mk ((by rw [hg]; exact (below_size (by repeat (first | (with_reducible first | exact HB.out | apply below_alloc | apply pw_below_drewN | apply below_drew1 | refine below_set ?_ GE368.out) | exact HB.out))) : w.heap.size ≤ gb373)); have n5_ := Aside0.mk ((by rw [hg]; exact Nat.ne_of_lt (blk_lt (g := gb368) (o := .cells #[.string a0_0, .string a0_1, .string a0_2, .string a0_3, .slice (some ad372) l0_4.length c0_4] 25 (0, 0)) (by (with_reducible repeat (first | refine blk_drewN ?_ _ | refine blk_drew ?_ | refine blk_alloc ?_ _)); exact BK368.out)) : gb368 ≠ gb373)); have n6_ := Aside0.mk ((by rw [hg]; exact Nat.ne_of_gt (blk_lt (g := gb368) (o := .cells #[.string a0_0, .string a0_1, .string a0_2, .string a0_3, .slice (some ad372) l0_4.length c0_4] 25 (0, 0)) (by (with_reducible repeat (first | refine blk_drewN ?_ _ | refine blk_drew ?_ | refine blk_alloc ?_ _)); exact BK368.out)) : gb373 ≠ gb368)); clear BK368; clear HB; have BK368 := n0_; have HB := n1_; have BK373 := n2_; have GW373 := n3_; have GE373 := n4_; have NB368_373 := n5_; have NB373_368 := n6_; clear n0_ n1_ n2_ n3_ n4_ n5_ n6_; clear hb hbox hg; have hnb93 := NB373_368.out; have hnc93 := NB368_373.out; have hcz94_0 : w92.cell? ⟨gb373, 0, none⟩ = some (.string (⟨#[]⟩ : ByteArray)) := (blk_cell BK373.out 0).trans rfl; have hcz94_1 : w92.cell? ⟨gb373, 1, none⟩ = some (.string (⟨#[]⟩ : ByteArray)) := (blk_cell BK373.out 1).trans rfl; have hfz94_0 := blk_frozen BK373.out 0; have hfz94_1 := blk_frozen BK373.out 1))
          have n0_ : Aside0 (((w92.setCell ⟨gb373, 0, none⟩ (.string ((rd_T38 l0_4 x29_2).f0))).setCell ⟨gb373, 1, none⟩ (.string ((rd_T38 l0_4 x29_2).f1))).heap[gb368]? = some (.cells #[.string a0_0, .string a0_1, .string a0_2, .string a0_3, .slice (some ad372) l0_4.length c0_4] 25 (0, 0))) := ⟨by (with_reducible repeat (first | refine blk_drewN ?_ _ | refine blk_drew ?_ | refine blk_alloc ?_ _)); refine blk_far ?_ NB368_373.out _; (with_reducible repeat (first | refine blk_drewN ?_ _ | refine blk_drew ?_ | refine blk_alloc ?_ _)); refine blk_far ?_ NB368_373.out _; (with_reducible repeat (first | refine blk_drewN ?_ _ | refine blk_drew ?_ | refine blk_alloc ?_ _)); exact BK368.out⟩
          have n1_ : Aside0 (((w92.setCell ⟨gb373, 0, none⟩ (.string ((rd_T38 l0_4 x29_2).f0))).setCell ⟨gb373, 1, none⟩ (.string ((rd_T38 l0_4 x29_2).f1))).heap[gb373]? = some (.cells #[.string ((rd_T38 l0_4 x29_2).f0), .string ((rd_T38 l0_4 x29_2).f1)] 38 (0, 0))) := ⟨by (with_reducible repeat (first | refine blk_drewN ?_ _ | refine blk_drew ?_ | refine blk_alloc ?_ _)); refine blk_put (cs := #[.string ((rd_T38 l0_4 x29_2).f0), .string (⟨#[]⟩ : ByteArray)]) ?_ 1 _ rfl; (with_reducible repeat (first | refine blk_drewN ?_ _ | refine blk_drew ?_ | refine blk_alloc ?_ _)); refine blk_put (cs := #[.string (⟨#[]⟩ : ByteArray), .string (⟨#[]⟩ : ByteArray)]) ?_ 0 _ rfl; (with_reducible repeat (first | refine blk_drewN ?_ _ | refine blk_drew ?_ | refine blk_alloc ?_ _)); exact BK373.out⟩
          have n2_ : Aside0 (Below w.heap.size w ((w92.setCell ⟨gb373, 0, none⟩ (.string ((rd_T38 l0_4 x29_2).f0))).setCell ⟨gb373, 1, none⟩ (.string ((rd_T38 l0_4 x29_2).f1)))) := ⟨by repeat (first | (with_reducible first | exact HB.out | apply below_alloc | apply pw_below_drewN | apply below_drew1 | refine below_set ?_ GE368.out | refine below_set ?_ GE373.out) | exact HB.out)⟩
          (try clear BK368)
          (try clear BK373)
          (try clear HB)
          generalize ((w92.setCell ⟨gb373, 0, none⟩ (.string ((rd_T38 l0_4 x29_2).f0))).setCell ⟨gb373, 1, none⟩ (.string ((rd_T38 l0_4 x29_2).f1))) = w95 at n0_ n1_ n2_ ⊢
          have BK368 := n0_
          have BK373 := n1_
          have HB := n2_
          clear n0_ n1_ n2_
          have n0_ := Aside0.mk (blk_drew BK368.out)
          have n1_ := Aside0.mk (blk_drew BK373.out)
          have n2_ := Aside0.mk (below_drew1 HB.out)
          clear BK368
          clear BK373
          clear HB
          have BK368 := n0_
          have BK373 := n1_
          have HB := n2_
          clear n0_ n1_ n2_
          refine start_ (n := 20) (S := fun w' => True) (ds := []) head_Write.a0 (by kernel_rfl) rfl rfl trivial (fun hHeld => ?_); refine with_tabW head_Write.tab6 head_Write.bits6 (fun HT_ HW_ => ?_)
          generalize w95.drew = w96 at BK368 BK373 HB hHeld ⊢
          refine pure_ (i := 0) (N := some 33) (v := ?_) (a' := ?_) head_Write.a1 rfl rfl (any_of HT_.out (by kernel_rfl)) (fun _ _ _ h => h) (Or.inl ⟨by rfl, ?_⟩) ?_ ?_
          rotate_left
          ·intro w'
           go_simp
           with_reducible rfl
          rotate_left
          ·simp only [Act.put, List.setIfInBounds_toArray, List.set_cons_zero, List.set_cons_succ, i64_w, i32_w]
           rfl
          refine pure_ (i := 1) (N := some 34) (v := ?_) (a' := ?_) head_Write.a2 rfl rfl (any_of HT_.out (by kernel_rfl)) (fun _ _ _ h => h) (Or.inl ⟨by rfl, ?_⟩) ?_ ?_
          rotate_left
          ·intro w'
           go_simp
           with_reducible rfl
          rotate_left
          ·simp only [Act.put, List.setIfInBounds_toArray, List.set_cons_zero, List.set_cons_succ, i64_w, i32_w]
           rfl
          refine pure_ (i := 2) (N := some 35) (v := undef) (a' := ?_) head_Write.a3 rfl rfl (any_of HT_.out (by kernel_rfl)) (fun _ _ _ h => h) (Or.inr ⟨by rfl, rfl⟩) ?_ ?_
          rotate_left
          ·simp only [Act.put, List.setIfInBounds_toArray, List.set_cons_zero, List.set_cons_succ, i64_w, i32_w]
           rfl
          refine pure_ (i := 3) (N := some 36) (v := undef) (a' := ?_) head_Write.a4 rfl rfl (any_of HT_.out (by kernel_rfl)) (fun _ _ _ h => h) (Or.inr ⟨by rfl, rfl⟩) ?_ ?_
          rotate_left
          ·simp only [Act.put, List.setIfInBounds_toArray, List.set_cons_zero, List.set_cons_succ, i64_w, i32_w]
           rfl
          refine pure_ (i := 4) (N := some 37) (v := undef) (a' := ?_) head_Write.a5 rfl rfl (any_of HT_.out (by kernel_rfl)) (fun _ _ _ h => h) (Or.inr ⟨by rfl, rfl⟩) ?_ ?_
          rotate_left
          ·simp only [Act.put, List.setIfInBounds_toArray, List.set_cons_zero, List.set_cons_succ, i64_w, i32_w]
           rfl
          refine pure_ (i := 5) (N := some 38) (v := ?_) (a' := ?_) head_Write.a6 rfl rfl (any_of HT_.out (by kernel_rfl)) (fun _ _ _ h => h) (Or.inl ⟨by rfl, ?_⟩) ?_ ?_
          rotate_left
          ·intro w'
           go_simp
           with_reducible rfl
          rotate_left
          ·simp only [Act.put, List.setIfInBounds_toArray, List.set_cons_zero, List.set_cons_succ, i64_w, i32_w]
           rfl
          refine pure_ (i := 6) (N := some 39) (v := ?_) (a' := ?_) head_Write.a7 rfl rfl (any_of HT_.out (by kernel_rfl)) (fun _ _ _ h => h) (Or.inl ⟨by rfl, ?_⟩) ?_ ?_
          rotate_left
          ·intro w'
           go_simp
           with_reducible rfl
          rotate_left
          ·simp only [Act.put, List.setIfInBounds_toArray, List.set_cons_zero, List.set_cons_succ, i64_w, i32_w]
           rfl
          refine pure_ (i := 7) (N := some 40) (v := undef) (a' := ?_) head_Write.a8 rfl rfl (any_of HT_.out (by kernel_rfl)) (fun _ _ _ h => h) (Or.inr ⟨by rfl, rfl⟩) ?_ ?_
          rotate_left
          ·simp only [Act.put, List.setIfInBounds_toArray, List.set_cons_zero, List.set_cons_succ, i64_w, i32_w]
           rfl
          refine pure_ (i := 8) (N := some 41) (v := undef) (a' := ?_) head_Write.a21 rfl rfl (any_of HT_.out (by kernel_rfl)) (fun _ _ _ h => h) (Or.inr ⟨by rfl, rfl⟩) ?_ ?_
          rotate_left
          ·simp only [Act.put, List.setIfInBounds_toArray, List.set_cons_zero, List.set_cons_succ, i64_w, i32_w]
           rfl
          refine pure_ (i := 9) (N := some 42) (v := undef) (a' := ?_) head_Write.a22 rfl rfl (any_of HT_.out (by kernel_rfl)) (fun _ _ _ h => h) (Or.inr ⟨by rfl, rfl⟩) ?_ ?_
          rotate_left
          ·simp only [Act.put, List.setIfInBounds_toArray, List.set_cons_zero, List.set_cons_succ, i64_w, i32_w]
           rfl
          refine pure_ (i := 10) (N := some 43) (v := undef) (a' := ?_) head_Write.a23 rfl rfl (any_of HT_.out (by kernel_rfl)) (fun _ _ _ h => h) (Or.inr ⟨by rfl, rfl⟩) ?_ ?_
          rotate_left
          ·simp only [Act.put, List.setIfInBounds_toArray, List.set_cons_zero, List.set_cons_succ, i64_w, i32_w]
           rfl
          refine pure_ (i := 11) (N := some 44) (v := undef) (a' := ?_) head_Write.a12 rfl rfl (any_of HT_.out (by kernel_rfl)) (fun _ _ _ h => h) (Or.inr ⟨by rfl, rfl⟩) ?_ ?_
          rotate_left
          ·simp only [Act.put, List.setIfInBounds_toArray, List.set_cons_zero, List.set_cons_succ, i64_w, i32_w]
           rfl
          refine pure_ (i := 12) (N := some 45) (v := undef) (a' := ?_) head_Write.a13 rfl rfl (any_of HT_.out (by kernel_rfl)) (fun _ _ _ h => h) (Or.inr ⟨by rfl, rfl⟩) ?_ ?_
          rotate_left
          ·simp only [Act.put, List.setIfInBounds_toArray, List.set_cons_zero, List.set_cons_succ, i64_w, i32_w]
           rfl
          refine pure_ (i := 13) (N := some 46) (v := ?_) (a' := ?_) head_Write.a14 rfl rfl (any_of HT_.out (by kernel_rfl)) (fun _ _ _ h => h) (Or.inl ⟨by rfl, ?_⟩) ?_ ?_
          rotate_left
          ·intro w'
           go_simp
           with_reducible rfl
          rotate_left
          ·simp only [Act.put, List.setIfInBounds_toArray, List.set_cons_zero, List.set_cons_succ, i64_w, i32_w]
           rfl
          refine pure_ (i := 14) (N := some 47) (v := ?_) (a' := ?_) head_Write.a15 rfl rfl (any_of HT_.out (by kernel_rfl)) (fun _ _ _ h => h) (Or.inl ⟨by rfl, ?_⟩) ?_ ?_
          rotate_left
          ·intro w'
           go_simp
           with_reducible rfl
          rotate_left
          ·simp only [Act.put, List.setIfInBounds_toArray, List.set_cons_zero, List.set_cons_succ, i64_w, i32_w]
           rfl
          refine pure_ (i := 15) (N := some 48) (v := undef) (a' := ?_) head_Write.a16 rfl rfl (any_of HT_.out (by kernel_rfl)) (fun _ _ _ h => h) (Or.inr ⟨by rfl, rfl⟩) ?_ ?_
          rotate_left
          ·simp only [Act.put, List.setIfInBounds_toArray, List.set_cons_zero, List.set_cons_succ, i64_w, i32_w]
           rfl
          refine pure_ (i := 16) (N := some 49) (v := undef) (a' := ?_) head_Write.a17 rfl rfl (any_of HT_.out (by kernel_rfl)) (fun _ _ _ h => h) (Or.inr ⟨by rfl, rfl⟩) ?_ ?_
          rotate_left
          ·simp only [Act.put, List.setIfInBounds_toArray, List.set_cons_zero, List.set_cons_succ, i64_w, i32_w]
           rfl
          refine pure_ (i := 17) (N := some 50) (v := undef) (a' := ?_) head_Write.a18 rfl rfl (any_of HT_.out (by kernel_rfl)) (fun _ _ _ h => h) (Or.inr ⟨by rfl, rfl⟩) ?_ ?_
          rotate_left
          ·simp only [Act.put, List.setIfInBounds_toArray, List.set_cons_zero, List.set_cons_succ, i64_w, i32_w]
           rfl
          refine pure_ (i := 18) (N := some 51) (v := ?_) (a' := ?_) head_Write.a19 rfl rfl (any_of HT_.out (by kernel_rfl)) (fun _ _ _ h => h) (Or.inl ⟨by rfl, ?_⟩) ?_ ?_
          rotate_left
          ·intro w'
           go_simp
           with_reducible rfl
          rotate_left
          ·simp only [Act.put, List.setIfInBounds_toArray, List.set_cons_zero, List.set_cons_succ, i64_w, i32_w]
           rfl
          refine pure_ (i := 19) (N := some 4) (v := ?_) (a' := ?_) head_Write.a20 rfl rfl (any_of HT_.out (by kernel_rfl)) (fun _ _ _ h => h) (Or.inl ⟨by rfl, ?_⟩) ?_ ?_
          rotate_left
          ·intro w'
           go_simp
           with_reducible rfl
          rotate_left
          ·simp only [Act.put, List.setIfInBounds_toArray, List.set_cons_zero, List.set_cons_succ, i64_w, i32_w]
           rfl
          refine done_ (done_of HT_.out (by kernel_rfl)) ?_
          have hcz97_0 : w96.cell? ⟨gb373, 0, none⟩ = some (.string ((rd_T38 l0_4 x29_2).f0)) := (blk_cell BK373.out 0).trans rfl
          have hcz97_1 : w96.cell? ⟨gb373, 1, none⟩ = some (.string ((rd_T38 l0_4 x29_2).f1)) := (blk_cell BK373.out 1).trans rfl
          have hfz97_0 := blk_frozen BK373.out 0
          have hfz97_1 := blk_frozen BK373.out 1
          try go_wp2_with (first | ((with_reducible refine gate_callee (f := 18) rfl ?_); refine goesL_ (some 60) rfl rfl Tryd.func18 (by kernel_rfl) rfl #[.string ((rd_T38 l0_4 x29_2).f1)] rfl (by (try simp only [List.map_toArray, List.map_cons, List.map_nil]); first | done | rfl | (simp only [List.length_drop, List.length_take]; rfl)) ?_; (with_reducible refine (head_Host.calls k2 ((rd_T38 l0_4 x29_2).f1) t383 t384 _ ?side1 A91.out).mono ?_); (case side1 => exact ML.keep HML.out (by repeat (first | (with_reducible first | exact HB.out | apply below_alloc | apply pw_below_drewN | apply below_drew1 | refine below_set ?_ GE368.out | refine below_set ?_ GE373.out) | exact HB.out))); rintro e w98 ⟨rfl, hb⟩; refine ⟨_, rfl, ?_⟩; have n0_ := Aside0.mk (blk_below (g := gb368) (o := .cells #[.string a0_0, .string a0_1, .string a0_2, .string a0_3, .slice (some ad372) l0_4.length c0_4] 25 (0, 0)) (by (with_reducible repeat (first | refine blk_drewN ?_ _ | refine blk_drew ?_ | refine blk_alloc ?_ _)); exact BK368.out) hb); have n1_ := Aside0.mk (blk_below (g := gb373) (o := .cells #[.string ((rd_T38 l0_4 x29_2).f0), .string ((rd_T38 l0_4 x29_2).f1)] 38 (0, 0)) (by (with_reducible repeat (first | refine blk_drewN ?_ _ | refine blk_drew ?_ | refine blk_alloc ?_ _)); exact BK373.out) hb); have n2_ := Aside0.mk (below_step (by repeat (first | (with_reducible first | exact HB.out | apply below_alloc | apply pw_below_drewN | apply below_drew1 | refine below_set ?_ GE368.out | refine below_set ?_ GE373.out) | exact HB.out)) hb); clear BK368; clear BK373; clear HB; have BK368 := n0_; have BK373 := n1_; have HB := n2_; clear n0_ n1_ n2_; (try clear hb); (try clear hb2); (try clear hk); (try clear hi)))
          go_roundg k2
          case measure => have := HJ1.out; have := HK2.out; omega
          case rel => exact ⟨(false), (wrap64 (x5_2 + 1)), (wrap64 (x29_2 + 1)), (by first | rfl | (simp; done) | (simp [*]; done)), (by first | rfl | (simp; done) | (simp [*]; done)), (by first | rfl | (simp; done) | (simp [*]; done)), H', ⟨by have := HJ1.out; have := HK2.out; omega⟩, ⟨by (with_reducible repeat (first | refine blk_drewN ?_ _ | refine blk_drew ?_ | refine blk_alloc ?_ _)); exact BK368.out⟩, ⟨by repeat (first | (with_reducible first | exact HB.out | apply below_alloc | apply pw_below_drewN | apply below_drew1 | refine below_set ?_ GE368.out | refine below_set ?_ GE373.out) | exact HB.out)⟩⟩
         ·rw [if_neg c90] at H
          have c90b0 : (((rd_T38 l0_4 x29_2).f0).toList == ([104, 111, 115, 116] : List UInt8)) = false := beq_eq_false_iff_ne.mpr c90
          have c90b1 : (((rd_T38 l0_4 x29_2).f0).toList != ([104, 111, 115, 116] : List UInt8)) = true := bne_iff_ne.mpr c90
          have H' := Aside0.mk H
          clear H
          have p372 : 0 ≤ (x29_2 : Int) := of_decide_eq_true (by first | (with_reducible assumption) | assumption)
          have q372 : x29_2 < (l0_4.length : Int) := of_decide_eq_true (by first | (with_reducible assumption) | assumption)
          obtain ⟨ad372, e372, hx372_0, hx372_1⟩ := at_T38 HR0_4.out x29_2 p372 q372
          cases e372
          replace hx372_0 := (HB.out.cell (World.block_lt_of_cell? w _ hx372_0)).trans hx372_0
          replace hx372_1 := (HB.out.cell (World.block_lt_of_cell? w _ hx372_1)).trans hx372_1
          replace p372 := eq_true p372
          replace q372 := eq_true q372
          try go_wp2_with (first | ((with_reducible refine gate_dst (N := 7) rfl ?_); (try (refine gate_guard (by rfl) ?_; dsimp only)); refine box_event ?hg (N := 7) ?hd (cs := #[.string (⟨#[]⟩ : ByteArray), .string (⟨#[]⟩ : ByteArray)]) (t := 38) ?hr ?_; (case hd => rfl); (case hg => rfl); (case hr => first | (go_simp; done) | (go_simp; rfl)); intro gb373 hg w99 hbox hb; have n0_ := Aside0.mk (blk_below (g := gb368) (o := .cells #[.string a0_0, .string a0_1, .string a0_2, .string a0_3, .slice (some ad372) l0_4.length c0_4] 25 (0, 0)) (by (with_reducible repeat (first | refine blk_drewN ?_ _ | refine blk_drew ?_ | refine blk_alloc ?_ _)); exact BK368.out) hb); have n1_ := Aside0.mk (below_step (by repeat (first | (with_reducible first | exact HB.out | apply below_alloc | apply pw_below_drewN | apply below_drew1 | refine below_set ?_ GE368.out) | exact HB.out)) hb); have n2_ := Aside0.mk (hbox); have n3_ := Aside0.mk ((by rw [hg]; exact (below_size (by repeat (first | (with_reducible first | exact HB.out | apply below_alloc | apply pw_below_drewN | apply below_drew1 | refine below_set ?_ GE368.out) | exact HB.out))) : w.heap.size ≤ gb373)); have n4_ := Aside0.mk ((by rw [hg]; exact (below_size (by repeat (first | (with_reducible first | exact HB.out | apply below_alloc | apply pw_below_drewN | apply below_drew1 | refine below_set ?_ GE368.out) | exact HB.out))) : w.heap.size ≤ gb373)); have n5_ := Aside0.mk ((by rw [hg]; exact Nat.ne_of_lt (blk_lt (g := gb368) (o := .cells #[.string a0_0, .string a0_1, .string a0_2, .string a0_3, .slice (some ad372) l0_4.length c0_4] 25 (0, 0)) (by (with_reducible repeat (first | refine blk_drewN ?_ _ | refine blk_drew ?_ | refine blk_alloc ?_ _)); exact BK368.out)) : gb368 ≠ gb373)); have n6_ := Aside0.mk ((by rw [hg]; exact Nat.ne_of_gt (blk_lt (g := gb368) (o := .cells #[.string a0_0, .string a0_1, .string a0_2, .string a0_3, .slice (some ad372) l0_4.length c0_4] 25 (0, 0)) (by (with_reducible repeat (first | refine blk_drewN ?_ _ | refine blk_drew ?_ | refine blk_alloc ?_ _)); exact BK368.out)) : gb373 ≠ gb368)); clear BK368; clear HB; have BK368 := n0_; have HB := n1_; have BK373 := n2_; have GW373 := n3_; have GE373 := n4_; have NB368_373 := n5_; have NB373_368 := n6_; clear n0_ n1_ n2_ n3_ n4_ n5_ n6_; clear hb hbox hg; have hnb100 := NB373_368.out; have hnc100 := NB368_373.out; have hcz101_0 : w99.cell? ⟨gb373, 0, none⟩ = some (.string (⟨#[]⟩ : ByteArray)) := (blk_cell BK373.out 0).trans rfl; have hcz101_1 : w99.cell? ⟨gb373, 1, none⟩ = some (.string (⟨#[]⟩ : ByteArray)) := (blk_cell BK373.out 1).trans rfl; have hfz101_0 := blk_frozen BK373.out 0; have hfz101_1 := blk_frozen BK373.out 1))
          have n0_ : Aside0 (((w99.setCell ⟨gb373, 0, none⟩ (.string ((rd_T38 l0_4 x29_2).f0))).setCell ⟨gb373, 1, none⟩ (.string ((rd_T38 l0_4 x29_2).f1))).heap[gb368]? = some (.cells #[.string a0_0, .string a0_1, .string a0_2, .string a0_3, .slice (some ad372) l0_4.length c0_4] 25 (0, 0))) := ⟨by (with_reducible repeat (first | refine blk_drewN ?_ _ | refine blk_drew ?_ | refine blk_alloc ?_ _)); refine blk_far ?_ NB368_373.out _; (with_reducible repeat (first | refine blk_drewN ?_ _ | refine blk_drew ?_ | refine blk_alloc ?_ _)); refine blk_far ?_ NB368_373.out _; (with_reducible repeat (first | refine blk_drewN ?_ _ | refine blk_drew ?_ | refine blk_alloc ?_ _)); exact BK368.out⟩
          have n1_ : Aside0 (((w99.setCell ⟨gb373, 0, none⟩ (.string ((rd_T38 l0_4 x29_2).f0))).setCell ⟨gb373, 1, none⟩ (.string ((rd_T38 l0_4 x29_2).f1))).heap[gb373]? = some (.cells #[.string ((rd_T38 l0_4 x29_2).f0), .string ((rd_T38 l0_4 x29_2).f1)] 38 (0, 0))) := ⟨by (with_reducible repeat (first | refine blk_drewN ?_ _ | refine blk_drew ?_ | refine blk_alloc ?_ _)); refine blk_put (cs := #[.string ((rd_T38 l0_4 x29_2).f0), .string (⟨#[]⟩ : ByteArray)]) ?_ 1 _ rfl; (with_reducible repeat (first | refine blk_drewN ?_ _ | refine blk_drew ?_ | refine blk_alloc ?_ _)); refine blk_put (cs := #[.string (⟨#[]⟩ : ByteArray), .string (⟨#[]⟩ : ByteArray)]) ?_ 0 _ rfl; (with_reducible repeat (first | refine blk_drewN ?_ _ | refine blk_drew ?_ | refine blk_alloc ?_ _)); exact BK373.out⟩
          have n2_ : Aside0 (Below w.heap.size w ((w99.setCell ⟨gb373, 0, none⟩ (.string ((rd_T38 l0_4 x29_2).f0))).setCell ⟨gb373, 1, none⟩ (.string ((rd_T38 l0_4 x29_2).f1)))) := ⟨by repeat (first | (with_reducible first | exact HB.out | apply below_alloc | apply pw_below_drewN | apply below_drew1 | refine below_set ?_ GE368.out | refine below_set ?_ GE373.out) | exact HB.out)⟩
          (try clear BK368)
          (try clear BK373)
          (try clear HB)
          generalize ((w99.setCell ⟨gb373, 0, none⟩ (.string ((rd_T38 l0_4 x29_2).f0))).setCell ⟨gb373, 1, none⟩ (.string ((rd_T38 l0_4 x29_2).f1))) = w102 at n0_ n1_ n2_ ⊢
          have BK368 := n0_
          have BK373 := n1_
          have HB := n2_
          clear n0_ n1_ n2_
          have n0_ := Aside0.mk (blk_drew BK368.out)
          have n1_ := Aside0.mk (blk_drew BK373.out)
          have n2_ := Aside0.mk (below_drew1 HB.out)
          clear BK368
          clear BK373
          clear HB
          have BK368 := n0_
          have BK373 := n1_
          have HB := n2_
          clear n0_ n1_ n2_
          refine start_ (n := 20) (S := fun w' => True) (ds := []) head_Write.a0 (by kernel_rfl) rfl rfl trivial (fun hHeld => ?_); refine with_tabW head_Write.tab6 head_Write.bits6 (fun HT_ HW_ => ?_)
          generalize w102.drew = w103 at BK368 BK373 HB hHeld ⊢
          refine pure_ (i := 0) (N := some 33) (v := ?_) (a' := ?_) head_Write.a1 rfl rfl (any_of HT_.out (by kernel_rfl)) (fun _ _ _ h => h) (Or.inl ⟨by rfl, ?_⟩) ?_ ?_
          rotate_left
          ·intro w'
           go_simp
           with_reducible rfl
          rotate_left
          ·simp only [Act.put, List.setIfInBounds_toArray, List.set_cons_zero, List.set_cons_succ, i64_w, i32_w]
           rfl
          refine pure_ (i := 1) (N := some 34) (v := ?_) (a' := ?_) head_Write.a2 rfl rfl (any_of HT_.out (by kernel_rfl)) (fun _ _ _ h => h) (Or.inl ⟨by rfl, ?_⟩) ?_ ?_
          rotate_left
          ·intro w'
           go_simp
           with_reducible rfl
          rotate_left
          ·simp only [Act.put, List.setIfInBounds_toArray, List.set_cons_zero, List.set_cons_succ, i64_w, i32_w]
           rfl
          refine pure_ (i := 2) (N := some 35) (v := undef) (a' := ?_) head_Write.a3 rfl rfl (any_of HT_.out (by kernel_rfl)) (fun _ _ _ h => h) (Or.inr ⟨by rfl, rfl⟩) ?_ ?_
          rotate_left
          ·simp only [Act.put, List.setIfInBounds_toArray, List.set_cons_zero, List.set_cons_succ, i64_w, i32_w]
           rfl
          refine pure_ (i := 3) (N := some 36) (v := undef) (a' := ?_) head_Write.a4 rfl rfl (any_of HT_.out (by kernel_rfl)) (fun _ _ _ h => h) (Or.inr ⟨by rfl, rfl⟩) ?_ ?_
          rotate_left
          ·simp only [Act.put, List.setIfInBounds_toArray, List.set_cons_zero, List.set_cons_succ, i64_w, i32_w]
           rfl
          refine pure_ (i := 4) (N := some 37) (v := undef) (a' := ?_) head_Write.a5 rfl rfl (any_of HT_.out (by kernel_rfl)) (fun _ _ _ h => h) (Or.inr ⟨by rfl, rfl⟩) ?_ ?_
          rotate_left
          ·simp only [Act.put, List.setIfInBounds_toArray, List.set_cons_zero, List.set_cons_succ, i64_w, i32_w]
           rfl
          refine pure_ (i := 5) (N := some 38) (v := ?_) (a' := ?_) head_Write.a6 rfl rfl (any_of HT_.out (by kernel_rfl)) (fun _ _ _ h => h) (Or.inl ⟨by rfl, ?_⟩) ?_ ?_
          rotate_left
          ·intro w'
           go_simp
           with_reducible rfl
          rotate_left
          ·simp only [Act.put, List.setIfInBounds_toArray, List.set_cons_zero, List.set_cons_succ, i64_w, i32_w]
           rfl
          refine pure_ (i := 6) (N := some 39) (v := ?_) (a' := ?_) head_Write.a7 rfl rfl (any_of HT_.out (by kernel_rfl)) (fun _ _ _ h => h) (Or.inl ⟨by rfl, ?_⟩) ?_ ?_
          rotate_left
          ·intro w'
           go_simp
           with_reducible rfl
          rotate_left
          ·simp only [Act.put, List.setIfInBounds_toArray, List.set_cons_zero, List.set_cons_succ, i64_w, i32_w]
           rfl
          refine pure_ (i := 7) (N := some 40) (v := undef) (a' := ?_) head_Write.a8 rfl rfl (any_of HT_.out (by kernel_rfl)) (fun _ _ _ h => h) (Or.inr ⟨by rfl, rfl⟩) ?_ ?_
          rotate_left
          ·simp only [Act.put, List.setIfInBounds_toArray, List.set_cons_zero, List.set_cons_succ, i64_w, i32_w]
           rfl
          refine pure_ (i := 8) (N := some 41) (v := undef) (a' := ?_) head_Write.a21 rfl rfl (any_of HT_.out (by kernel_rfl)) (fun _ _ _ h => h) (Or.inr ⟨by rfl, rfl⟩) ?_ ?_
          rotate_left
          ·simp only [Act.put, List.setIfInBounds_toArray, List.set_cons_zero, List.set_cons_succ, i64_w, i32_w]
           rfl
          refine pure_ (i := 9) (N := some 42) (v := undef) (a' := ?_) head_Write.a22 rfl rfl (any_of HT_.out (by kernel_rfl)) (fun _ _ _ h => h) (Or.inr ⟨by rfl, rfl⟩) ?_ ?_
          rotate_left
          ·simp only [Act.put, List.setIfInBounds_toArray, List.set_cons_zero, List.set_cons_succ, i64_w, i32_w]
           rfl
          refine pure_ (i := 10) (N := some 43) (v := undef) (a' := ?_) head_Write.a23 rfl rfl (any_of HT_.out (by kernel_rfl)) (fun _ _ _ h => h) (Or.inr ⟨by rfl, rfl⟩) ?_ ?_
          rotate_left
          ·simp only [Act.put, List.setIfInBounds_toArray, List.set_cons_zero, List.set_cons_succ, i64_w, i32_w]
           rfl
          refine pure_ (i := 11) (N := some 44) (v := undef) (a' := ?_) head_Write.a12 rfl rfl (any_of HT_.out (by kernel_rfl)) (fun _ _ _ h => h) (Or.inr ⟨by rfl, rfl⟩) ?_ ?_
          rotate_left
          ·simp only [Act.put, List.setIfInBounds_toArray, List.set_cons_zero, List.set_cons_succ, i64_w, i32_w]
           rfl
          refine pure_ (i := 12) (N := some 45) (v := undef) (a' := ?_) head_Write.a13 rfl rfl (any_of HT_.out (by kernel_rfl)) (fun _ _ _ h => h) (Or.inr ⟨by rfl, rfl⟩) ?_ ?_
          rotate_left
          ·simp only [Act.put, List.setIfInBounds_toArray, List.set_cons_zero, List.set_cons_succ, i64_w, i32_w]
           rfl
          refine pure_ (i := 13) (N := some 46) (v := ?_) (a' := ?_) head_Write.a14 rfl rfl (any_of HT_.out (by kernel_rfl)) (fun _ _ _ h => h) (Or.inl ⟨by rfl, ?_⟩) ?_ ?_
          rotate_left
          ·intro w'
           go_simp
           with_reducible rfl
          rotate_left
          ·simp only [Act.put, List.setIfInBounds_toArray, List.set_cons_zero, List.set_cons_succ, i64_w, i32_w]
           rfl
          refine pure_ (i := 14) (N := some 47) (v := ?_) (a' := ?_) head_Write.a15 rfl rfl (any_of HT_.out (by kernel_rfl)) (fun _ _ _ h => h) (Or.inl ⟨by rfl, ?_⟩) ?_ ?_
          rotate_left
          ·intro w'
           go_simp
           with_reducible rfl
          rotate_left
          ·simp only [Act.put, List.setIfInBounds_toArray, List.set_cons_zero, List.set_cons_succ, i64_w, i32_w]
           rfl
          refine pure_ (i := 15) (N := some 48) (v := undef) (a' := ?_) head_Write.a16 rfl rfl (any_of HT_.out (by kernel_rfl)) (fun _ _ _ h => h) (Or.inr ⟨by rfl, rfl⟩) ?_ ?_
          rotate_left
          ·simp only [Act.put, List.setIfInBounds_toArray, List.set_cons_zero, List.set_cons_succ, i64_w, i32_w]
           rfl
          refine pure_ (i := 16) (N := some 49) (v := undef) (a' := ?_) head_Write.a17 rfl rfl (any_of HT_.out (by kernel_rfl)) (fun _ _ _ h => h) (Or.inr ⟨by rfl, rfl⟩) ?_ ?_
          rotate_left
          ·simp only [Act.put, List.setIfInBounds_toArray, List.set_cons_zero, List.set_cons_succ, i64_w, i32_w]
           rfl
          refine pure_ (i := 17) (N := some 50) (v := undef) (a' := ?_) head_Write.a18 rfl rfl (any_of HT_.out (by kernel_rfl)) (fun _ _ _ h => h) (Or.inr ⟨by rfl, rfl⟩) ?_ ?_
          rotate_left
          ·simp only [Act.put, List.setIfInBounds_toArray, List.set_cons_zero, List.set_cons_succ, i64_w, i32_w]
           rfl
          refine pure_ (i := 18) (N := some 51) (v := ?_) (a' := ?_) head_Write.a19 rfl rfl (any_of HT_.out (by kernel_rfl)) (fun _ _ _ h => h) (Or.inl ⟨by rfl, ?_⟩) ?_ ?_
          rotate_left
          ·intro w'
           go_simp
           with_reducible rfl
          rotate_left
          ·simp only [Act.put, List.setIfInBounds_toArray, List.set_cons_zero, List.set_cons_succ, i64_w, i32_w]
           rfl
          refine pure_ (i := 19) (N := some 4) (v := ?_) (a' := ?_) head_Write.a20 rfl rfl (any_of HT_.out (by kernel_rfl)) (fun _ _ _ h => h) (Or.inl ⟨by rfl, ?_⟩) ?_ ?_
          rotate_left
          ·intro w'
           go_simp
           with_reducible rfl
          rotate_left
          ·simp only [Act.put, List.setIfInBounds_toArray, List.set_cons_zero, List.set_cons_succ, i64_w, i32_w]
           rfl
          refine done_ (done_of HT_.out (by kernel_rfl)) ?_
          have hcz104_0 : w103.cell? ⟨gb373, 0, none⟩ = some (.string ((rd_T38 l0_4 x29_2).f0)) := (blk_cell BK373.out 0).trans rfl
          have hcz104_1 : w103.cell? ⟨gb373, 1, none⟩ = some (.string ((rd_T38 l0_4 x29_2).f1)) := (blk_cell BK373.out 1).trans rfl
          have hfz104_0 := blk_frozen BK373.out 0
          have hfz104_1 := blk_frozen BK373.out 1
          try go_wp2
          go_roundg k2
          case measure => have := HJ1.out; have := HK2.out; omega
          case rel => exact ⟨(false), (x5_2), (wrap64 (x29_2 + 1)), (by first | rfl | (simp; done) | (simp [*]; done)), (by first | rfl | (simp; done) | (simp [*]; done)), (by first | rfl | (simp; done) | (simp [*]; done)), H', ⟨by have := HJ1.out; have := HK2.out; omega⟩, ⟨by (with_reducible repeat (first | refine blk_drewN ?_ _ | refine blk_drew ?_ | refine blk_alloc ?_ _)); exact BK368.out⟩, ⟨by repeat (first | (with_reducible first | exact HB.out | apply below_alloc | apply pw_below_drewN | apply below_drew1 | refine below_set ?_ GE368.out | refine below_set ?_ GE373.out) | exact HB.out)⟩⟩
       ·rw [if_neg c15] at H
        exact absurd H (by simp)
      ·rw [if_neg c14] at H
       exact absurd H (by simp)
     ·rw [if_neg c13] at H
      have c13b0 : decide (x29_2 < (l0_4.length : Int)) = false := decide_eq_false c13
      clear c13
      have HC105 := Aside0.mk H
      clear H
      go_upto_region 12 with (fail)
      go_cut [79] (fun v79 wc => ∃ (kq : Nat) (x79_104 : Bool), v79 = .bool x79_104 ∧ Aside0 (head_Write.j2 kq x79_104 a0_0 a0_1 a0_2 a0_3 l0_4 = some (r1, r2)) ∧ Aside0 (kq ≤ k2) ∧ Aside0 (wc.heap[gb368]? = some (.cells #[.string a0_0, .string a0_1, .string a0_2, .string a0_3, (.slice A0_4 l0_4.length c0_4)] 25 (0, 0))) ∧ Aside0 (Below w.heap.size w wc))
      case first =>
       have H := HC105.out
       clear HC105
       by_cases c106 : x4_2 = true
       ·subst c106
        have H1 : (head_Write.j2 k2 (x5_2 != 1) a0_0 a0_1 a0_2 a0_3 l0_4) = some (r1, r2) := by rw [if_pos rfl] at H; exact H
        clear H
        have H := H1
        clear H1
        have H' := Aside0.mk H
        clear H
        go_wp2
        go_meet
        case rel => exact ⟨_, ((x5_2 != 1)), (by first | rfl | (simp; done) | (simp [*]; done)), H', ⟨by have := HJ1.out; have := HK2.out; first | omega | exact Nat.le_refl _⟩, ⟨by (with_reducible repeat (first | refine blk_drewN ?_ _ | refine blk_drew ?_ | refine blk_alloc ?_ _)); exact BK368.out⟩, ⟨by repeat (first | (with_reducible first | exact HB.out | apply below_alloc | apply pw_below_drewN | apply below_drew1 | refine below_set ?_ GE368.out) | exact HB.out)⟩⟩
       ·replace c106 := Bool.eq_false_iff.mpr c106
        subst c106
        have H1 : (head_Write.j2 k2 true a0_0 a0_1 a0_2 a0_3 l0_4) = some (r1, r2) := by rw [if_neg (show ¬ (false = true) by decide)] at H; exact H
        clear H
        have H := H1
        clear H1
        have H' := Aside0.mk H
        clear H
        go_wp2
        go_meet
        case rel => exact ⟨_, (true), (by first | rfl | (simp; done) | (simp [*]; done)), H', ⟨by have := HJ1.out; have := HK2.out; first | omega | exact Nat.le_refl _⟩, ⟨by (with_reducible repeat (first | refine blk_drewN ?_ _ | refine blk_drew ?_ | refine blk_alloc ?_ _)); exact BK368.out⟩, ⟨by repeat (first | (with_reducible first | exact HB.out | apply below_alloc | apply pw_below_drewN | apply below_drew1 | refine below_set ?_ GE368.out) | exact HB.out)⟩⟩
      case rest =>
       clear HC105
       try clear c13
       try clear c13b0
       obtain ⟨kq, x79_104, rfl, HA, HJ104, BK368, HB⟩ := hcut
       cases kq with
       | zero => exact absurd HA.out (by simp [head_Write.j2])
       | succ kj104 =>
        have H := HA.out
        clear HA
        simp only [head_Write.j2] at H
        by_cases c107 : x79_104 = true
        ·subst c107
         have H1 : (some (([] : List Int), 4)) = some (r1, r2) := by rw [if_pos rfl] at H; exact H
         clear H
         have H := H1
         clear H1
         simp only [Option.some.injEq, Prod.mk.injEq] at H
         obtain ⟨rfl, rfl⟩ := H
         go_wp2
         go_ret2
         exact ⟨_, by first | rfl | (simp [errW_none, errW_some] <;> rfl) | (simp [*, errW_none, errW_some] <;> rfl), by first | exact Yd.R_nil _ _ _ _ _ | exact Kd.N_nil _ _ _ _ _ | exact Kd.V_nil _ _ _ _ _ | exact Kd.Q_nil _ _ _ _ _ | exact Kd.S_nil _ _ _ _ _, by repeat (first | (with_reducible first | exact HB.out | apply below_alloc | apply pw_below_drewN | apply below_drew1 | refine below_set ?_ GE368.out) | exact HB.out)⟩
        ·replace c107 := Bool.eq_false_iff.mpr c107
         subst c107
         have H1 : (if a0_0.size + 1 ≤ 9223372036854775807 then (if (a0_0 ++ (⟨#[32]⟩ : ByteArray)).size + a0_1.size ≤ 9223372036854775807 then (if ((a0_0 ++ (⟨#[32]⟩ : ByteArray)) ++ a0_1).size ≤ 9223372036854775807 then ((some (bytesOf ((a0_0 ++ (⟨#[32]⟩ : ByteArray)) ++ a0_1) : List Int)).bind fun y385 => (if a0_2.toList = ([] : List UInt8) then (head_Write.j3 kj104 y385 a0_0 a0_1 a0_2 a0_3 l0_4) else (if 1 + a0_2.size ≤ 9223372036854775807 then (if y385.length + ((⟨#[63]⟩ : ByteArray) ++ a0_2).size < 140737488355328 then (head_Write.j3 kj104 (y385 ++ bytesOf ((⟨#[63]⟩ : ByteArray) ++ a0_2)) a0_0 a0_1 a0_2 a0_3 l0_4) else (none)) else (none)))) else (none)) else (none)) else (none)) = some (r1, r2) := by rw [if_neg (show ¬ (false = true) by decide)] at H; exact H
         clear H
         have H := H1
         clear H1
         by_cases c108 : a0_0.size + 1 ≤ 9223372036854775807
         ·rw [if_pos c108] at H
          have c108b0 := eq_true c108
          have c108b1 : decide (a0_0.size + 1 ≤ 9223372036854775807) = true := decide_eq_true c108
          try have c108b2 : (9223372036854775807 < a0_0.size + 1) = False := eq_false (Nat.not_lt.2 c108)
          by_cases c109 : (a0_0 ++ (⟨#[32]⟩ : ByteArray)).size + a0_1.size ≤ 9223372036854775807
          ·rw [if_pos c109] at H
           have c109b0 := eq_true c109
           have c109b1 : decide ((a0_0 ++ (⟨#[32]⟩ : ByteArray)).size + a0_1.size ≤ 9223372036854775807) = true := decide_eq_true c109
           try have c109b2 : (9223372036854775807 < (a0_0 ++ (⟨#[32]⟩ : ByteArray)).size + a0_1.size) = False := eq_false (Nat.not_lt.2 c109)
           by_cases c110 : ((a0_0 ++ (⟨#[32]⟩ : ByteArray)) ++ a0_1).size ≤ 9223372036854775807
           ·rw [if_pos c110] at H
            have LMc110 := Aside0.mk c110
            clear c110
            obtain ⟨y385, hy385⟩ : ∃ y_ : List Int, y_ = (bytesOf ((a0_0 ++ (⟨#[32]⟩ : ByteArray)) ++ a0_1)) := ⟨_, rfl⟩
            replace H : (if a0_2.toList = ([] : List UInt8) then (head_Write.j3 kj104 y385 a0_0 a0_1 a0_2 a0_3 l0_4) else (if 1 + a0_2.size ≤ 9223372036854775807 then (if y385.length + ((⟨#[63]⟩ : ByteArray) ++ a0_2).size < 140737488355328 then (head_Write.j3 kj104 (y385 ++ bytesOf ((⟨#[63]⟩ : ByteArray) ++ a0_2)) a0_0 a0_1 a0_2 a0_3 l0_4) else (none)) else (none))) = some (r1, r2) := by first | (rw [hy385]; with_reducible exact H) | (have H2_ := (Option.bind_some _ _).symm.trans H; rw [hy385]; with_reducible exact H2_) | (have H2_ := (Option.bind_some _ _).symm.trans H; with_reducible exact H2_) | with_reducible exact H | (rw [hy385]; exact H) | exact H
            have Ny385 := Aside0.mk hy385
            clear hy385
            have HC111 := Aside0.mk H
            clear H
            have hcz112_0 : wc.cell? ⟨gb368, 0, none⟩ = some (.string a0_0) := (blk_cell BK368.out 0).trans rfl
            have hcz112_1 : wc.cell? ⟨gb368, 1, none⟩ = some (.string a0_1) := (blk_cell BK368.out 1).trans rfl
            have hcz112_2 : wc.cell? ⟨gb368, 2, none⟩ = some (.string a0_2) := (blk_cell BK368.out 2).trans rfl
            have hcz112_3 : wc.cell? ⟨gb368, 3, none⟩ = some (.string a0_3) := (blk_cell BK368.out 3).trans rfl
            have hcz112_4 : wc.cell? ⟨gb368, 4, none⟩ = some (.slice A0_4 l0_4.length c0_4) := (blk_cell BK368.out 4).trans rfl
            have hfz112_0 := blk_frozen BK368.out 0
            have hfz112_1 := blk_frozen BK368.out 1
            have hfz112_2 := blk_frozen BK368.out 2
            have hfz112_3 := blk_frozen BK368.out 3
            have hfz112_4 := blk_frozen BK368.out 4
            go_upto_if 89 with (first | ((with_reducible refine gate_dst (N := 86) rfl ?_); (try (refine gate_guard (by rfl) ?_; dsimp only)); refine Yd.R_bytes (s := ((a0_0 ++ (⟨#[32]⟩ : ByteArray)) ++ a0_1)) _ 5 ?hg (N := 86) ?hd (ok := fun _ => True) ?hr trivial (Below.refl _ _) (Nat.le_refl _) LMc110.out ?_; (case hd => rfl); (case hg => rfl); (case hr => first | (go_simp; done) | (go_simp; rfl)); intro v386 w113 ho114 hb hg_ hnew_; clear hg_ hnew_; (first | rw [← Ny385.out] at ho114 | (simp only [Int.reduceToNat] at ho114; rw [← Ny385.out] at ho114)); have n0_ := Aside0.mk (Yd.R_lower ho114 (below_size (by repeat (first | (with_reducible first | exact HB.out | apply below_alloc | apply pw_below_drewN | apply below_drew1 | refine below_set ?_ GE368.out) | exact HB.out)))); have n1_ := Aside0.mk (blk_below (g := gb368) (o := .cells #[.string a0_0, .string a0_1, .string a0_2, .string a0_3, .slice A0_4 l0_4.length c0_4] 25 (0, 0)) (by (with_reducible repeat (first | refine blk_drewN ?_ _ | refine blk_drew ?_ | refine blk_alloc ?_ _)); exact BK368.out) hb); have n2_ := Aside0.mk (below_step (by repeat (first | (with_reducible first | exact HB.out | apply below_alloc | apply pw_below_drewN | apply below_drew1 | refine below_set ?_ GE368.out) | exact HB.out)) hb); clear BK368; clear HB; have HO387 := n0_; have BK368 := n1_; have HB := n2_; clear n0_ n1_ n2_; clear hb ho114; have hcz115_0 : w113.cell? ⟨gb368, 0, none⟩ = some (.string a0_0) := (blk_cell BK368.out 0).trans rfl; have hcz115_1 : w113.cell? ⟨gb368, 1, none⟩ = some (.string a0_1) := (blk_cell BK368.out 1).trans rfl; have hcz115_2 : w113.cell? ⟨gb368, 2, none⟩ = some (.string a0_2) := (blk_cell BK368.out 2).trans rfl; have hcz115_3 : w113.cell? ⟨gb368, 3, none⟩ = some (.string a0_3) := (blk_cell BK368.out 3).trans rfl; have hcz115_4 : w113.cell? ⟨gb368, 4, none⟩ = some (.slice A0_4 l0_4.length c0_4) := (blk_cell BK368.out 4).trans rfl; have hfz115_0 := blk_frozen BK368.out 0; have hfz115_1 := blk_frozen BK368.out 1; have hfz115_2 := blk_frozen BK368.out 2; have hfz115_3 := blk_frozen BK368.out 3; have hfz115_4 := blk_frozen BK368.out 4))
            (try simp only [Act.put, List.setIfInBounds_toArray, List.set_cons_zero, List.set_cons_succ])
            go_cut [10] (fun v10 wc => ∃ (kq : Nat) (x10_110 : List Int), Aside0 (head_Write.j3 kq x10_110 a0_0 a0_1 a0_2 a0_3 l0_4 = some (r1, r2)) ∧ Aside0 (kq ≤ kj104) ∧ Aside0 (Yd.R (Kd.int .u8) 5 wc w.heap.size (fun _ => True) v10 x10_110) ∧ Aside0 (wc.heap[gb368]? = some (.cells #[.string a0_0, .string a0_1, .string a0_2, .string a0_3, (.slice A0_4 l0_4.length c0_4)] 25 (0, 0))) ∧ Aside0 (Below w.heap.size w wc))
            case first =>
             have H := HC111.out
             clear HC111
             by_cases c116 : a0_2.toList = ([] : List UInt8)
             ·rw [if_pos c116] at H
              have c116b0 : (a0_2.toList == ([] : List UInt8)) = true := beq_iff_eq.mpr c116
              have c116b1 : (a0_2.toList != ([] : List UInt8)) = false := bne_eq_false_iff_eq.mpr c116
              have c116b2 : a0_2.toList.isEmpty = true := by simpa using c116
              clear c116
              (first | rw [c116b0] | (simp only [i64_w, i32_w]; rw [c116b0]) | rw [c116b2] | skip)
              have H' := Aside0.mk H
              clear H
              go_wp2
              go_meet
              case rel => exact ⟨_, (y385), H', ⟨by have := HJ1.out; have := HK2.out; have := HJ104.out; first | omega | exact Nat.le_refl _⟩, ⟨by (with_reducible repeat (first | apply Yd.R_alloc | apply Yd.R_drewN | apply Yd.R_drew)); exact HO387.out⟩, ⟨by (with_reducible repeat (first | refine blk_drewN ?_ _ | refine blk_drew ?_ | refine blk_alloc ?_ _)); exact BK368.out⟩, ⟨by repeat (first | (with_reducible first | exact HB.out | apply below_alloc | apply pw_below_drewN | apply below_drew1 | refine below_set ?_ GE368.out) | exact HB.out)⟩⟩
             ·rw [if_neg c116] at H
              have c116b0 : (a0_2.toList == ([] : List UInt8)) = false := beq_eq_false_iff_ne.mpr c116
              have c116b1 : (a0_2.toList != ([] : List UInt8)) = true := bne_iff_ne.mpr c116
              have c116b2 : a0_2.toList.isEmpty = false := by simpa using c116
              (first | rw [c116b0] | (simp only [i64_w, i32_w]; rw [c116b0]) | rw [c116b2] | skip)
              by_cases c117 : 1 + a0_2.size ≤ 9223372036854775807
              ·rw [if_pos c117] at H
               have c117b0 := eq_true c117
               have c117b1 : decide (1 + a0_2.size ≤ 9223372036854775807) = true := decide_eq_true c117
               try have c117b2 : (9223372036854775807 < 1 + a0_2.size) = False := eq_false (Nat.not_lt.2 c117)
               by_cases c118 : y385.length + ((⟨#[63]⟩ : ByteArray) ++ a0_2).size < 140737488355328
               ·rw [if_pos c118] at H
                have LMc118 := Aside0.mk c118
                clear c118
                obtain ⟨y388, hy388⟩ : ∃ y_ : List Int, y_ = (y385 ++ bytesOf ((⟨#[63]⟩ : ByteArray) ++ a0_2)) := ⟨_, rfl⟩
                replace H : (head_Write.j3 kj104 y388 a0_0 a0_1 a0_2 a0_3 l0_4) = some (r1, r2) := by first | (rw [hy388]; with_reducible exact H) | (have H2_ := (Option.bind_some _ _).symm.trans H; rw [hy388]; with_reducible exact H2_) | (have H2_ := (Option.bind_some _ _).symm.trans H; with_reducible exact H2_) | with_reducible exact H | (rw [hy388]; exact H) | exact H
                have Ny388 := Aside0.mk hy388
                clear hy388
                have H' := Aside0.mk H
                clear H
                have hcz119_0 : w113.cell? ⟨gb368, 0, none⟩ = some (.string a0_0) := (blk_cell BK368.out 0).trans rfl
                have hcz119_1 : w113.cell? ⟨gb368, 1, none⟩ = some (.string a0_1) := (blk_cell BK368.out 1).trans rfl
                have hcz119_2 : w113.cell? ⟨gb368, 2, none⟩ = some (.string a0_2) := (blk_cell BK368.out 2).trans rfl
                have hcz119_3 : w113.cell? ⟨gb368, 3, none⟩ = some (.string a0_3) := (blk_cell BK368.out 3).trans rfl
                have hcz119_4 : w113.cell? ⟨gb368, 4, none⟩ = some (.slice A0_4 l0_4.length c0_4) := (blk_cell BK368.out 4).trans rfl
                have hfz119_0 := blk_frozen BK368.out 0
                have hfz119_1 := blk_frozen BK368.out 1
                have hfz119_2 := blk_frozen BK368.out 2
                have hfz119_3 := blk_frozen BK368.out 3
                have hfz119_4 := blk_frozen BK368.out 4
                go_wp2_with (first | (at_builtin; refine Yd.append_str (w0 := w) w.heap.size rfl (.tmp 90) _ 22 9 5 rfl Tryd.underlying22 Tryd.underlying9 info5 v386 y385 ((⟨#[63]⟩ : ByteArray) ++ a0_2) rfl rfl ?aO ?aB ?aS ?aL ?_; (case aB => exact (by repeat (first | (with_reducible first | exact HB.out | apply below_alloc | apply pw_below_drewN | apply below_drew1 | refine below_set ?_ GE368.out) | exact HB.out))); (case aO => exact (Yd.own_of_R (by (with_reducible repeat (first | apply Yd.R_alloc | apply Yd.R_drewN | apply Yd.R_drew)); exact HO387.out))); (case aS => exact (below_size (by repeat (first | (with_reducible first | exact HB.out | apply below_alloc | apply pw_below_drewN | apply below_drew1 | refine below_set ?_ GE368.out) | exact HB.out)))); (case aL => have := LMc118.out; omega); intro v389 w120 ho0 hb hg; have ho := Yd.R_of_own (ok := fun _ => True) ho0 (fun _ _ => trivial); clear ho0; have hat := True.intro; rw [← Ny388.out] at ho; change Yd.R (Kd.int .u8) 5 w120 w.heap.size (fun _ => True) v389 y388 at ho; have n0_ := Aside0.mk (blk_grown (g := gb368) (o := .cells #[.string a0_0, .string a0_1, .string a0_2, .string a0_3, .slice A0_4 l0_4.length c0_4] 25 (0, 0)) (by (with_reducible repeat (first | refine blk_drewN ?_ _ | refine blk_drew ?_ | refine blk_alloc ?_ _)); exact BK368.out) hg (Yd.R_ne HO387.out BK368.out (by decide))); have n1_ := Aside0.mk (hb); have n2_ := Aside0.mk (ho); clear BK368; clear HB; clear HO387; have BK368 := n0_; have HB := n1_; have HO390 := n2_; clear n0_ n1_ n2_; clear ho hb hg hat))
                go_meet
                case rel => exact ⟨_, (y388), H', ⟨by have := HJ1.out; have := HK2.out; have := HJ104.out; first | omega | exact Nat.le_refl _⟩, ⟨by (with_reducible repeat (first | apply Yd.R_alloc | apply Yd.R_drewN | apply Yd.R_drew)); exact HO390.out⟩, ⟨by (with_reducible repeat (first | refine blk_drewN ?_ _ | refine blk_drew ?_ | refine blk_alloc ?_ _)); exact BK368.out⟩, ⟨by repeat (first | (with_reducible first | exact HB.out | apply below_alloc | apply pw_below_drewN | apply below_drew1 | refine below_set ?_ GE368.out) | exact HB.out)⟩⟩
               ·rw [if_neg c118] at H
                exact absurd H (by simp)
              ·rw [if_neg c117] at H
               exact absurd H (by simp)
            case rest =>
             clear HC111
             try clear c13
             try clear c13b0
             try clear c107
             try clear c108
             try clear c108b0
             try clear c108b1
             try clear c108b2
             try clear c109
             try clear c109b0
             try clear c109b1
             try clear c109b2
             try clear c110
             try clear hcz112_0
             try clear hcz112_1
             try clear hcz112_2
             try clear hcz112_3
             try clear hcz112_4
             try clear hcz115_0
             try clear hcz115_1
             try clear hcz115_2
             try clear hcz115_3
             try clear hcz115_4
             try clear hfz112_0
             try clear hfz112_1
             try clear hfz112_2
             try clear hfz112_3
             try clear hfz112_4
             try clear hfz115_0
             try clear hfz115_1
             try clear hfz115_2
             try clear hfz115_3
             try clear hfz115_4
             obtain ⟨kq, x10_110, HA, HJ110, HO_10, BK368, HB⟩ := hcut
             cases kq with
             | zero => exact absurd HA.out (by simp [head_Write.j3])
             | succ kj110 =>
              have H := HA.out
              clear HA
              simp only [head_Write.j3] at H
              by_cases c121 : x10_110.length + 11 < 140737488355328
              ·rw [if_pos c121] at H
               have LMc121 := Aside0.mk c121
               clear c121
               obtain ⟨y391, hy391⟩ : ∃ y_ : List Int, y_ = (x10_110 ++ bytesOf (⟨#[32, 72, 84, 84, 80, 47, 49, 46, 49, 13, 10]⟩ : ByteArray)) := ⟨_, rfl⟩
               replace H : (head_Write.l1 kj110 y391 l0_4 (l0_4.length : Int) 0 a0_0 a0_1 a0_2 a0_3 l0_4) = some (r1, r2) := by first | (rw [hy391]; with_reducible exact H) | (have H2_ := (Option.bind_some _ _).symm.trans H; rw [hy391]; with_reducible exact H2_) | (have H2_ := (Option.bind_some _ _).symm.trans H; with_reducible exact H2_) | with_reducible exact H | (rw [hy391]; exact H) | exact H
               have Ny391 := Aside0.mk hy391
               clear hy391
               have H' := Aside0.mk H
               clear H
               go_wp2_with (first | (at_builtin; refine Yd.append_str (w0 := w) w.heap.size rfl (.tmp 95) _ 22 9 5 rfl Tryd.underlying22 Tryd.underlying9 info5 u10 x10_110 (⟨#[32, 72, 84, 84, 80, 47, 49, 46, 49, 13, 10]⟩ : ByteArray) rfl rfl ?aO ?aB ?aS ?aL ?_; (case aB => exact (by repeat (first | (with_reducible first | exact HB.out | apply below_alloc | apply pw_below_drewN | apply below_drew1 | refine below_set ?_ GE368.out) | exact HB.out))); (case aO => exact (Yd.own_of_R (by (with_reducible repeat (first | apply Yd.R_alloc | apply Yd.R_drewN | apply Yd.R_drew)); exact HO_10.out))); (case aS => exact (below_size (by repeat (first | (with_reducible first | exact HB.out | apply below_alloc | apply pw_below_drewN | apply below_drew1 | refine below_set ?_ GE368.out) | exact HB.out)))); (case aL => have := LMc121.out; have hz_ : (⟨#[32, 72, 84, 84, 80, 47, 49, 46, 49, 13, 10]⟩ : ByteArray).size = 11 := rfl; omega); intro v392 w122 ho0 hb hg; have ho := Yd.R_of_own (ok := fun _ => True) ho0 (fun _ _ => trivial); clear ho0; have hat := True.intro; rw [← Ny391.out] at ho; change Yd.R (Kd.int .u8) 5 w122 w.heap.size (fun _ => True) v392 y391 at ho; have n0_ := Aside0.mk (blk_grown (g := gb368) (o := .cells #[.string a0_0, .string a0_1, .string a0_2, .string a0_3, .slice A0_4 l0_4.length c0_4] 25 (0, 0)) (by (with_reducible repeat (first | refine blk_drewN ?_ _ | refine blk_drew ?_ | refine blk_alloc ?_ _)); exact BK368.out) hg (Yd.R_ne HO_10.out BK368.out (by decide))); have n1_ := Aside0.mk (hb); have n2_ := Aside0.mk (ho); clear BK368; clear HB; clear HO_10; have BK368 := n0_; have HB := n1_; have HO393 := n2_; clear n0_ n1_ n2_; clear ho hb hg hat; have hcz123_0 : w122.cell? ⟨gb368, 0, none⟩ = some (.string a0_0) := (blk_cell BK368.out 0).trans rfl; have hcz123_1 : w122.cell? ⟨gb368, 1, none⟩ = some (.string a0_1) := (blk_cell BK368.out 1).trans rfl; have hcz123_2 : w122.cell? ⟨gb368, 2, none⟩ = some (.string a0_2) := (blk_cell BK368.out 2).trans rfl; have hcz123_3 : w122.cell? ⟨gb368, 3, none⟩ = some (.string a0_3) := (blk_cell BK368.out 3).trans rfl; have hcz123_4 : w122.cell? ⟨gb368, 4, none⟩ = some (.slice A0_4 l0_4.length c0_4) := (blk_cell BK368.out 4).trans rfl; have hfz123_0 := blk_frozen BK368.out 0; have hfz123_1 := blk_frozen BK368.out 1; have hfz123_2 := blk_frozen BK368.out 2; have hfz123_3 := blk_frozen BK368.out 3; have hfz123_4 := blk_frozen BK368.out 4))
               go_loopg [10, 100] kj110 (fun kq v10 v100 w' => ∃ (x10_5 : List Int) (x100_5 : Int), v100 = .int .i64 x100_5 ∧ Aside0 (head_Write.l1 kq x10_5 l0_4 (l0_4.length : Int) x100_5 a0_0 a0_1 a0_2 a0_3 l0_4 = some (r1, r2)) ∧ Aside0 (kq ≤ kj110) ∧ Aside0 (Yd.R (Kd.int .u8) 5 w' w.heap.size (fun _ => True) v10 x10_5) ∧ Aside0 (w'.heap[gb368]? = some (.cells #[.string a0_0, .string a0_1, .string a0_2, .string a0_3, (.slice A0_4 l0_4.length c0_4)] 25 (0, 0))) ∧ Aside0 (Below w.heap.size w w'))
               case atStart => exact ⟨(y391), (0), (by first | rfl | (simp; done) | (simp [*]; done)), H', ⟨Nat.le_refl _⟩, ⟨by (with_reducible repeat (first | apply Yd.R_alloc | apply Yd.R_drewN | apply Yd.R_drew)); exact HO393.out⟩, ⟨by (with_reducible repeat (first | refine blk_drewN ?_ _ | refine blk_drew ?_ | refine blk_alloc ?_ _)); exact BK368.out⟩, ⟨by repeat (first | (with_reducible first | exact HB.out | apply below_alloc | apply pw_below_drewN | apply below_drew1 | refine below_set ?_ GE368.out) | exact HB.out)⟩⟩
               case round =>
                clear H'
                try clear c13
                try clear c13b0
                try clear c107
                try clear c108
                try clear c108b0
                try clear c108b1
                try clear c108b2
                try clear c109
                try clear c109b0
                try clear c109b1
                try clear c109b2
                try clear c110
                try clear c121
                try clear hcz112_0
                try clear hcz112_1
                try clear hcz112_2
                try clear hcz112_3
                try clear hcz112_4
                try clear hcz115_0
                try clear hcz115_1
                try clear hcz115_2
                try clear hcz115_3
                try clear hcz115_4
                try clear hcz123_0
                try clear hcz123_1
                try clear hcz123_2
                try clear hcz123_3
                try clear hcz123_4
                try clear hfz112_0
                try clear hfz112_1
                try clear hfz112_2
                try clear hfz112_3
                try clear hfz112_4
                try clear hfz115_0
                try clear hfz115_1
                try clear hfz115_2
                try clear hfz115_3
                try clear hfz115_4
                try clear hfz123_0
                try clear hfz123_1
                try clear hfz123_2
                try clear hfz123_3
                try clear hfz123_4
                obtain ⟨x10_5, x100_5, rfl, HA, HK5, HO_10, BK368, HB⟩ := hrel
                cases gk with
                | zero => exact absurd HA.out (by simp [head_Write.l1])
                | succ k5 =>
                 have H := HA.out
                 clear HA
                 simp only [head_Write.l1] at H
                 by_cases c124 : x100_5 < (l0_4.length : Int)
                 ·rw [if_pos c124] at H
                  have c124b0 : decide (x100_5 < (l0_4.length : Int)) = true := decide_eq_true c124
                  clear c124
                  by_cases c125 : 0 ≤ x100_5
                  ·rw [if_pos c125] at H
                   have c125b0 : decide (0 ≤ x100_5) = true := decide_eq_true c125
                   clear c125
                   by_cases c126 : x100_5 < (l0_4.length : Int)
                   ·rw [if_pos c126] at H
                    have c126b0 : decide (x100_5 < (l0_4.length : Int)) = true := decide_eq_true c126
                    clear c126
                    by_cases c127 : ((rd_T38 l0_4 x100_5).f0).size + 2 ≤ 9223372036854775807
                    ·rw [if_pos c127] at H
                     have c127b0 := eq_true c127
                     have c127b1 : decide (((rd_T38 l0_4 x100_5).f0).size + 2 ≤ 9223372036854775807) = true := decide_eq_true c127
                     try have c127b2 : (9223372036854775807 < ((rd_T38 l0_4 x100_5).f0).size + 2) = False := eq_false (Nat.not_lt.2 c127)
                     by_cases c128 : (((rd_T38 l0_4 x100_5).f0) ++ (⟨#[58, 32]⟩ : ByteArray)).size + ((rd_T38 l0_4 x100_5).f1).size ≤ 9223372036854775807
                     ·rw [if_pos c128] at H
                      have c128b0 := eq_true c128
                      have c128b1 : decide ((((rd_T38 l0_4 x100_5).f0) ++ (⟨#[58, 32]⟩ : ByteArray)).size + ((rd_T38 l0_4 x100_5).f1).size ≤ 9223372036854775807) = true := decide_eq_true c128
                      try have c128b2 : (9223372036854775807 < (((rd_T38 l0_4 x100_5).f0) ++ (⟨#[58, 32]⟩ : ByteArray)).size + ((rd_T38 l0_4 x100_5).f1).size) = False := eq_false (Nat.not_lt.2 c128)
                      by_cases c129 : ((((rd_T38 l0_4 x100_5).f0) ++ (⟨#[58, 32]⟩ : ByteArray)) ++ ((rd_T38 l0_4 x100_5).f1)).size + 2 ≤ 9223372036854775807
                      ·rw [if_pos c129] at H
                       have c129b0 := eq_true c129
                       have c129b1 : decide (((((rd_T38 l0_4 x100_5).f0) ++ (⟨#[58, 32]⟩ : ByteArray)) ++ ((rd_T38 l0_4 x100_5).f1)).size + 2 ≤ 9223372036854775807) = true := decide_eq_true c129
                       try have c129b2 : (9223372036854775807 < ((((rd_T38 l0_4 x100_5).f0) ++ (⟨#[58, 32]⟩ : ByteArray)) ++ ((rd_T38 l0_4 x100_5).f1)).size + 2) = False := eq_false (Nat.not_lt.2 c129)
                       have c129s : (9223372036854775807 < ((rd_T38 l0_4 x100_5).f0).size + 2 + ((rd_T38 l0_4 x100_5).f1).size + 2) = False := eq_false (by have h_ := c129; rw [ByteArray.size_append, ByteArray.size_append, show (⟨#[58, 32]⟩ : ByteArray).size = 2 from rfl] at h_; omega)
                       by_cases c130 : x10_5.length + (((((rd_T38 l0_4 x100_5).f0) ++ (⟨#[58, 32]⟩ : ByteArray)) ++ ((rd_T38 l0_4 x100_5).f1)) ++ (⟨#[13, 10]⟩ : ByteArray)).size < 140737488355328
                       ·rw [if_pos c130] at H
                        have LMc130 := Aside0.mk c130
                        clear c130
                        obtain ⟨y396, hy396⟩ : ∃ y_ : List Int, y_ = (x10_5 ++ bytesOf (((((rd_T38 l0_4 x100_5).f0) ++ (⟨#[58, 32]⟩ : ByteArray)) ++ ((rd_T38 l0_4 x100_5).f1)) ++ (⟨#[13, 10]⟩ : ByteArray))) := ⟨_, rfl⟩
                        replace H : (head_Write.l1 k5 y396 l0_4 (l0_4.length : Int) (wrap64 (x100_5 + 1)) a0_0 a0_1 a0_2 a0_3 l0_4) = some (r1, r2) := by first | (rw [hy396]; with_reducible exact H) | (have H2_ := (Option.bind_some _ _).symm.trans H; rw [hy396]; with_reducible exact H2_) | (have H2_ := (Option.bind_some _ _).symm.trans H; with_reducible exact H2_) | with_reducible exact H | (rw [hy396]; exact H) | exact H
                        have Ny396 := Aside0.mk hy396
                        clear hy396
                        have H' := Aside0.mk H
                        clear H
                        have p394 : 0 ≤ (x100_5 : Int) := of_decide_eq_true (by first | (with_reducible assumption) | assumption)
                        have q394 : x100_5 < (l0_4.length : Int) := of_decide_eq_true (by first | (with_reducible assumption) | assumption)
                        obtain ⟨ad394, e394, hx394_0, hx394_1⟩ := at_T38 HR0_4.out x100_5 p394 q394
                        cases e394
                        replace hx394_0 := (HB.out.cell (World.block_lt_of_cell? w _ hx394_0)).trans hx394_0
                        replace hx394_1 := (HB.out.cell (World.block_lt_of_cell? w _ hx394_1)).trans hx394_1
                        replace p394 := eq_true p394
                        replace q394 := eq_true q394
                        go_wp2_with (first | ((with_reducible refine gate_dst (N := 12) rfl ?_); (try (refine gate_guard (by rfl) ?_; dsimp only)); refine box_event ?hg (N := 12) ?hd (cs := #[.string (⟨#[]⟩ : ByteArray), .string (⟨#[]⟩ : ByteArray)]) (t := 38) ?hr ?_; (case hd => rfl); (case hg => rfl); (case hr => first | (go_simp; done) | (go_simp; rfl)); intro gb395 hg w131 hbox hb; have n0_ := Aside0.mk (Yd.R_below (by (with_reducible repeat (first | apply Yd.R_alloc | apply Yd.R_drewN | apply Yd.R_drew)); exact HO_10.out) hb); have n1_ := Aside0.mk (blk_below (g := gb368) (o := .cells #[.string a0_0, .string a0_1, .string a0_2, .string a0_3, .slice (some ad394) l0_4.length c0_4] 25 (0, 0)) (by (with_reducible repeat (first | refine blk_drewN ?_ _ | refine blk_drew ?_ | refine blk_alloc ?_ _)); exact BK368.out) hb); have n2_ := Aside0.mk (below_step (by repeat (first | (with_reducible first | exact HB.out | apply below_alloc | apply pw_below_drewN | apply below_drew1 | refine below_set ?_ GE368.out) | exact HB.out)) hb); have n3_ := Aside0.mk (hbox); have n4_ := Aside0.mk ((by rw [hg]; exact (below_size (by repeat (first | (with_reducible first | exact HB.out | apply below_alloc | apply pw_below_drewN | apply below_drew1 | refine below_set ?_ GE368.out) | exact HB.out))) : w.heap.size ≤ gb395)); have n5_ := Aside0.mk ((by rw [hg]; exact (below_size (by repeat (first | (with_reducible first | exact HB.out | apply below_alloc | apply pw_below_drewN | apply below_drew1 | refine below_set ?_ GE368.out) | exact HB.out))) : w.heap.size ≤ gb395)); have n6_ := Aside0.mk ((by rw [hg]; exact Nat.ne_of_lt (blk_lt (g := gb368) (o := .cells #[.string a0_0, .string a0_1, .string a0_2, .string a0_3, .slice (some ad394) l0_4.length c0_4] 25 (0, 0)) (by (with_reducible repeat (first | refine blk_drewN ?_ _ | refine blk_drew ?_ | refine blk_alloc ?_ _)); exact BK368.out)) : gb368 ≠ gb395)); have n7_ := Aside0.mk ((by rw [hg]; exact Nat.ne_of_gt (blk_lt (g := gb368) (o := .cells #[.string a0_0, .string a0_1, .string a0_2, .string a0_3, .slice (some ad394) l0_4.length c0_4] 25 (0, 0)) (by (with_reducible repeat (first | refine blk_drewN ?_ _ | refine blk_drew ?_ | refine blk_alloc ?_ _)); exact BK368.out)) : gb395 ≠ gb368)); clear HO_10; clear BK368; clear HB; have HO_10 := n0_; have BK368 := n1_; have HB := n2_; have BK395 := n3_; have GW395 := n4_; have GE395 := n5_; have NB368_395 := n6_; have NB395_368 := n7_; clear n0_ n1_ n2_ n3_ n4_ n5_ n6_ n7_; clear hb hbox hg; have hnb132 := NB395_368.out; have hnc132 := NB368_395.out; have hcz133_0 : w131.cell? ⟨gb395, 0, none⟩ = some (.string (⟨#[]⟩ : ByteArray)) := (blk_cell BK395.out 0).trans rfl; have hcz133_1 : w131.cell? ⟨gb395, 1, none⟩ = some (.string (⟨#[]⟩ : ByteArray)) := (blk_cell BK395.out 1).trans rfl; have hfz133_0 := blk_frozen BK395.out 0; have hfz133_1 := blk_frozen BK395.out 1) | (at_builtin; refine Yd.append_str (w0 := w) w.heap.size rfl (.tmp 104) _ 22 9 5 rfl Tryd.underlying22 Tryd.underlying9 info5 u10 x10_5 (((((rd_T38 l0_4 x100_5).f0) ++ (⟨#[58, 32]⟩ : ByteArray)) ++ ((rd_T38 l0_4 x100_5).f1)) ++ (⟨#[13, 10]⟩ : ByteArray)) rfl rfl ?aO ?aB ?aS ?aL ?_; (case aB => exact (by repeat (first | (with_reducible first | exact HB.out | apply below_alloc | apply pw_below_drewN | apply below_drew1 | refine below_set ?_ GE368.out | refine below_set ?_ GE395.out) | exact HB.out))); (case aO => exact (Yd.own_of_R (by (with_reducible repeat (first | apply Yd.R_alloc | apply Yd.R_drewN | apply Yd.R_drew)); exact Yd.R_mono (Yd.R_far (p := ⟨gb395, 1, none⟩) (Yd.R_far (p := ⟨gb395, 0, none⟩) (Yd.R_types HO_10.out BK395.out (by decide)) (fun _ hk => hk.2) (.string ((rd_T38 l0_4 x100_5).f0))) (fun _ hk => hk.2) (.string ((rd_T38 l0_4 x100_5).f1))) (fun _ hk => trivial)))); (case aS => exact (below_size (by repeat (first | (with_reducible first | exact HB.out | apply below_alloc | apply pw_below_drewN | apply below_drew1 | refine below_set ?_ GE368.out | refine below_set ?_ GE395.out) | exact HB.out)))); (case aL => have := LMc130.out; omega); intro v397 w134 ho0 hb hg; have ho := Yd.R_of_own (ok := fun _ => True) ho0 (fun _ _ => trivial); clear ho0; have hat := True.intro; rw [← Ny396.out] at ho; change Yd.R (Kd.int .u8) 5 w134 w.heap.size (fun _ => True) v397 y396 at ho; have n0_ := Aside0.mk (blk_grown (g := gb368) (o := .cells #[.string a0_0, .string a0_1, .string a0_2, .string a0_3, .slice (some ad394) l0_4.length c0_4] 25 (0, 0)) (by (with_reducible repeat (first | refine blk_drewN ?_ _ | refine blk_drew ?_ | refine blk_alloc ?_ _)); refine blk_far ?_ NB368_395.out _; (with_reducible repeat (first | refine blk_drewN ?_ _ | refine blk_drew ?_ | refine blk_alloc ?_ _)); refine blk_far ?_ NB368_395.out _; (with_reducible repeat (first | refine blk_drewN ?_ _ | refine blk_drew ?_ | refine blk_alloc ?_ _)); exact BK368.out) hg (Yd.R_ne HO_10.out BK368.out (by decide))); have n1_ := Aside0.mk (blk_grown (g := gb395) (o := .cells #[.string ((rd_T38 l0_4 x100_5).f0), .string ((rd_T38 l0_4 x100_5).f1)] 38 (0, 0)) (by (with_reducible repeat (first | refine blk_drewN ?_ _ | refine blk_drew ?_ | refine blk_alloc ?_ _)); refine blk_put (cs := #[.string ((rd_T38 l0_4 x100_5).f0), .string (⟨#[]⟩ : ByteArray)]) ?_ 1 _ rfl; (with_reducible repeat (first | refine blk_drewN ?_ _ | refine blk_drew ?_ | refine blk_alloc ?_ _)); refine blk_put (cs := #[.string (⟨#[]⟩ : ByteArray), .string (⟨#[]⟩ : ByteArray)]) ?_ 0 _ rfl; (with_reducible repeat (first | refine blk_drewN ?_ _ | refine blk_drew ?_ | refine blk_alloc ?_ _)); exact BK395.out) hg (Yd.R_ne HO_10.out BK395.out (by decide))); have n2_ := Aside0.mk (hb); have n3_ := Aside0.mk (ho); clear BK368; clear BK395; clear HB; clear HO_10; have BK368 := n0_; have BK395 := n1_; have HB := n2_; have HO398 := n3_; clear n0_ n1_ n2_ n3_; clear ho hb hg hat))
                        go_roundg k5
                        case measure => have := HJ1.out; have := HK2.out; have := HJ104.out; have := HJ110.out; have := HK5.out; omega
                        case rel => exact ⟨(y396), (wrap64 (x100_5 + 1)), (by first | rfl | (simp; done) | (simp [*]; done)), H', ⟨by have := HJ1.out; have := HK2.out; have := HJ104.out; have := HJ110.out; have := HK5.out; omega⟩, ⟨by (with_reducible repeat (first | apply Yd.R_alloc | apply Yd.R_drewN | apply Yd.R_drew)); exact HO398.out⟩, ⟨by (with_reducible repeat (first | refine blk_drewN ?_ _ | refine blk_drew ?_ | refine blk_alloc ?_ _)); exact BK368.out⟩, ⟨by repeat (first | (with_reducible first | exact HB.out | apply below_alloc | apply pw_below_drewN | apply below_drew1 | refine below_set ?_ GE368.out | refine below_set ?_ GE395.out) | exact HB.out)⟩⟩
                       ·rw [if_neg c130] at H
                        exact absurd H (by simp)
                      ·rw [if_neg c129] at H
                       exact absurd H (by simp)
                     ·rw [if_neg c128] at H
                      exact absurd H (by simp)
                    ·rw [if_neg c127] at H
                     exact absurd H (by simp)
                   ·rw [if_neg c126] at H
                    exact absurd H (by simp)
                  ·rw [if_neg c125] at H
                   exact absurd H (by simp)
                 ·rw [if_neg c124] at H
                  have c124b0 : decide (x100_5 < (l0_4.length : Int)) = false := decide_eq_false c124
                  clear c124
                  by_cases c135 : x10_5.length + 2 < 140737488355328
                  ·rw [if_pos c135] at H
                   have LMc135 := Aside0.mk c135
                   clear c135
                   obtain ⟨y399, hy399⟩ : ∃ y_ : List Int, y_ = (x10_5 ++ bytesOf (⟨#[13, 10]⟩ : ByteArray)) := ⟨_, rfl⟩
                   replace H : (if (l0_4.length : Int) > 32 then (some (([] : List Int), 6)) else (if (y399.length : Int) > 2048 then (some (([] : List Int), 6)) else (some (y399, 0)))) = some (r1, r2) := by first | (rw [hy399]; with_reducible exact H) | (have H2_ := (Option.bind_some _ _).symm.trans H; rw [hy399]; with_reducible exact H2_) | (have H2_ := (Option.bind_some _ _).symm.trans H; with_reducible exact H2_) | with_reducible exact H | (rw [hy399]; exact H) | exact H
                   have Ny399 := Aside0.mk hy399
                   clear hy399
                   by_cases c136 : (l0_4.length : Int) > 32
                   ·rw [if_pos c136] at H
                    have c136b0 : decide (32 < (l0_4.length : Int)) = true := decide_eq_true c136
                    have c136b1 : decide (32 < l0_4.length) = true := decide_eq_true (by omega)
                    clear c136
                    simp only [Option.some.injEq, Prod.mk.injEq] at H
                    obtain ⟨rfl, rfl⟩ := H
                    go_wp2_with (first | (at_builtin; refine Yd.append_str (w0 := w) w.heap.size rfl (.tmp 114) _ 22 9 5 rfl Tryd.underlying22 Tryd.underlying9 info5 u10 x10_5 (⟨#[13, 10]⟩ : ByteArray) rfl rfl ?aO ?aB ?aS ?aL ?_; (case aB => exact (by repeat (first | (with_reducible first | exact HB.out | apply below_alloc | apply pw_below_drewN | apply below_drew1 | refine below_set ?_ GE368.out) | exact HB.out))); (case aO => exact (Yd.own_of_R (by (with_reducible repeat (first | apply Yd.R_alloc | apply Yd.R_drewN | apply Yd.R_drew)); exact HO_10.out))); (case aS => exact (below_size (by repeat (first | (with_reducible first | exact HB.out | apply below_alloc | apply pw_below_drewN | apply below_drew1 | refine below_set ?_ GE368.out) | exact HB.out)))); (case aL => have := LMc135.out; have hz_ : (⟨#[13, 10]⟩ : ByteArray).size = 2 := rfl; omega); intro v400 w137 ho0 hb hg; have ho := Yd.R_of_own (ok := fun _ => True) ho0 (fun _ _ => trivial); clear ho0; have hat := True.intro; rw [← Ny399.out] at ho; change Yd.R (Kd.int .u8) 5 w137 w.heap.size (fun _ => True) v400 y399 at ho; have n0_ := Aside0.mk (blk_grown (g := gb368) (o := .cells #[.string a0_0, .string a0_1, .string a0_2, .string a0_3, .slice A0_4 l0_4.length c0_4] 25 (0, 0)) (by (with_reducible repeat (first | refine blk_drewN ?_ _ | refine blk_drew ?_ | refine blk_alloc ?_ _)); exact BK368.out) hg (Yd.R_ne HO_10.out BK368.out (by decide))); have n1_ := Aside0.mk (hb); have n2_ := Aside0.mk (ho); clear BK368; clear HB; clear HO_10; have BK368 := n0_; have HB := n1_; have HO401 := n2_; clear n0_ n1_ n2_; clear ho hb hg hat; have hcz138_0 : w137.cell? ⟨gb368, 0, none⟩ = some (.string a0_0) := (blk_cell BK368.out 0).trans rfl; have hcz138_1 : w137.cell? ⟨gb368, 1, none⟩ = some (.string a0_1) := (blk_cell BK368.out 1).trans rfl; have hcz138_2 : w137.cell? ⟨gb368, 2, none⟩ = some (.string a0_2) := (blk_cell BK368.out 2).trans rfl; have hcz138_3 : w137.cell? ⟨gb368, 3, none⟩ = some (.string a0_3) := (blk_cell BK368.out 3).trans rfl; have hcz138_4 : w137.cell? ⟨gb368, 4, none⟩ = some (.slice A0_4 l0_4.length c0_4) := (blk_cell BK368.out 4).trans rfl; have hfz138_0 := blk_frozen BK368.out 0; have hfz138_1 := blk_frozen BK368.out 1; have hfz138_2 := blk_frozen BK368.out 2; have hfz138_3 := blk_frozen BK368.out 3; have hfz138_4 := blk_frozen BK368.out 4))
                    go_ret2
                    exact ⟨_, by first | rfl | (simp [errW_none, errW_some] <;> rfl) | (simp [*, errW_none, errW_some] <;> rfl), by first | exact Yd.R_nil _ _ _ _ _ | exact Kd.N_nil _ _ _ _ _ | exact Kd.V_nil _ _ _ _ _ | exact Kd.Q_nil _ _ _ _ _ | exact Kd.S_nil _ _ _ _ _, by repeat (first | (with_reducible first | exact HB.out | apply below_alloc | apply pw_below_drewN | apply below_drew1 | refine below_set ?_ GE368.out) | exact HB.out)⟩
                   ·rw [if_neg c136] at H
                    have c136b0 : decide (32 < (l0_4.length : Int)) = false := decide_eq_false c136
                    have c136b1 : decide (32 < l0_4.length) = false := decide_eq_false (by omega)
                    clear c136
                    by_cases c139 : (y399.length : Int) > 2048
                    ·rw [if_pos c139] at H
                     have c139b0 : decide (2048 < (y399.length : Int)) = true := decide_eq_true c139
                     have c139b1 : decide (2048 < y399.length) = true := decide_eq_true (by omega)
                     clear c139
                     simp only [Option.some.injEq, Prod.mk.injEq] at H
                     obtain ⟨rfl, rfl⟩ := H
                     go_wp2_with (first | (at_builtin; refine Yd.append_str (w0 := w) w.heap.size rfl (.tmp 114) _ 22 9 5 rfl Tryd.underlying22 Tryd.underlying9 info5 u10 x10_5 (⟨#[13, 10]⟩ : ByteArray) rfl rfl ?aO ?aB ?aS ?aL ?_; (case aB => exact (by repeat (first | (with_reducible first | exact HB.out | apply below_alloc | apply pw_below_drewN | apply below_drew1 | refine below_set ?_ GE368.out) | exact HB.out))); (case aO => exact (Yd.own_of_R (by (with_reducible repeat (first | apply Yd.R_alloc | apply Yd.R_drewN | apply Yd.R_drew)); exact HO_10.out))); (case aS => exact (below_size (by repeat (first | (with_reducible first | exact HB.out | apply below_alloc | apply pw_below_drewN | apply below_drew1 | refine below_set ?_ GE368.out) | exact HB.out)))); (case aL => have := LMc135.out; have hz_ : (⟨#[13, 10]⟩ : ByteArray).size = 2 := rfl; omega); intro v400 w140 ho0 hb hg; have ho := Yd.R_of_own (ok := fun _ => True) ho0 (fun _ _ => trivial); clear ho0; have hat := True.intro; rw [← Ny399.out] at ho; change Yd.R (Kd.int .u8) 5 w140 w.heap.size (fun _ => True) v400 y399 at ho; have n0_ := Aside0.mk (blk_grown (g := gb368) (o := .cells #[.string a0_0, .string a0_1, .string a0_2, .string a0_3, .slice A0_4 l0_4.length c0_4] 25 (0, 0)) (by (with_reducible repeat (first | refine blk_drewN ?_ _ | refine blk_drew ?_ | refine blk_alloc ?_ _)); exact BK368.out) hg (Yd.R_ne HO_10.out BK368.out (by decide))); have n1_ := Aside0.mk (hb); have n2_ := Aside0.mk (ho); clear BK368; clear HB; clear HO_10; have BK368 := n0_; have HB := n1_; have HO401 := n2_; clear n0_ n1_ n2_; clear ho hb hg hat; have hcz141_0 : w140.cell? ⟨gb368, 0, none⟩ = some (.string a0_0) := (blk_cell BK368.out 0).trans rfl; have hcz141_1 : w140.cell? ⟨gb368, 1, none⟩ = some (.string a0_1) := (blk_cell BK368.out 1).trans rfl; have hcz141_2 : w140.cell? ⟨gb368, 2, none⟩ = some (.string a0_2) := (blk_cell BK368.out 2).trans rfl; have hcz141_3 : w140.cell? ⟨gb368, 3, none⟩ = some (.string a0_3) := (blk_cell BK368.out 3).trans rfl; have hcz141_4 : w140.cell? ⟨gb368, 4, none⟩ = some (.slice A0_4 l0_4.length c0_4) := (blk_cell BK368.out 4).trans rfl; have hfz141_0 := blk_frozen BK368.out 0; have hfz141_1 := blk_frozen BK368.out 1; have hfz141_2 := blk_frozen BK368.out 2; have hfz141_3 := blk_frozen BK368.out 3; have hfz141_4 := blk_frozen BK368.out 4; obtain ⟨Ao142, co142, eo142⟩ := Yd.R_slice HO401.out; subst eo142))
                     go_ret2
                     exact ⟨_, by first | rfl | (simp [errW_none, errW_some] <;> rfl) | (simp [*, errW_none, errW_some] <;> rfl), by first | exact Yd.R_nil _ _ _ _ _ | exact Kd.N_nil _ _ _ _ _ | exact Kd.V_nil _ _ _ _ _ | exact Kd.Q_nil _ _ _ _ _ | exact Kd.S_nil _ _ _ _ _, by repeat (first | (with_reducible first | exact HB.out | apply below_alloc | apply pw_below_drewN | apply below_drew1 | refine below_set ?_ GE368.out) | exact HB.out)⟩
                    ·rw [if_neg c139] at H
                     have c139b0 : decide (2048 < (y399.length : Int)) = false := decide_eq_false c139
                     have c139b1 : decide (2048 < y399.length) = false := decide_eq_false (by omega)
                     clear c139
                     simp only [Option.some.injEq, Prod.mk.injEq] at H
                     obtain ⟨rfl, rfl⟩ := H
                     go_wp2_with (first | (at_builtin; refine Yd.append_str (w0 := w) w.heap.size rfl (.tmp 114) _ 22 9 5 rfl Tryd.underlying22 Tryd.underlying9 info5 u10 x10_5 (⟨#[13, 10]⟩ : ByteArray) rfl rfl ?aO ?aB ?aS ?aL ?_; (case aB => exact (by repeat (first | (with_reducible first | exact HB.out | apply below_alloc | apply pw_below_drewN | apply below_drew1 | refine below_set ?_ GE368.out) | exact HB.out))); (case aO => exact (Yd.own_of_R (by (with_reducible repeat (first | apply Yd.R_alloc | apply Yd.R_drewN | apply Yd.R_drew)); exact HO_10.out))); (case aS => exact (below_size (by repeat (first | (with_reducible first | exact HB.out | apply below_alloc | apply pw_below_drewN | apply below_drew1 | refine below_set ?_ GE368.out) | exact HB.out)))); (case aL => have := LMc135.out; have hz_ : (⟨#[13, 10]⟩ : ByteArray).size = 2 := rfl; omega); intro v400 w143 ho0 hb hg; have ho := Yd.R_of_own (ok := fun _ => True) ho0 (fun _ _ => trivial); clear ho0; have hat := True.intro; rw [← Ny399.out] at ho; change Yd.R (Kd.int .u8) 5 w143 w.heap.size (fun _ => True) v400 y399 at ho; have n0_ := Aside0.mk (blk_grown (g := gb368) (o := .cells #[.string a0_0, .string a0_1, .string a0_2, .string a0_3, .slice A0_4 l0_4.length c0_4] 25 (0, 0)) (by (with_reducible repeat (first | refine blk_drewN ?_ _ | refine blk_drew ?_ | refine blk_alloc ?_ _)); exact BK368.out) hg (Yd.R_ne HO_10.out BK368.out (by decide))); have n1_ := Aside0.mk (hb); have n2_ := Aside0.mk (ho); clear BK368; clear HB; clear HO_10; have BK368 := n0_; have HB := n1_; have HO401 := n2_; clear n0_ n1_ n2_; clear ho hb hg hat; have hcz144_0 : w143.cell? ⟨gb368, 0, none⟩ = some (.string a0_0) := (blk_cell BK368.out 0).trans rfl; have hcz144_1 : w143.cell? ⟨gb368, 1, none⟩ = some (.string a0_1) := (blk_cell BK368.out 1).trans rfl; have hcz144_2 : w143.cell? ⟨gb368, 2, none⟩ = some (.string a0_2) := (blk_cell BK368.out 2).trans rfl; have hcz144_3 : w143.cell? ⟨gb368, 3, none⟩ = some (.string a0_3) := (blk_cell BK368.out 3).trans rfl; have hcz144_4 : w143.cell? ⟨gb368, 4, none⟩ = some (.slice A0_4 l0_4.length c0_4) := (blk_cell BK368.out 4).trans rfl; have hfz144_0 := blk_frozen BK368.out 0; have hfz144_1 := blk_frozen BK368.out 1; have hfz144_2 := blk_frozen BK368.out 2; have hfz144_3 := blk_frozen BK368.out 3; have hfz144_4 := blk_frozen BK368.out 4; obtain ⟨Ao145, co145, eo145⟩ := Yd.R_slice HO401.out; subst eo145))
                     go_ret2
                     exact ⟨_, by first | rfl | (simp [errW_none, errW_some] <;> rfl) | (simp [*, errW_none, errW_some] <;> rfl), by (with_reducible repeat (first | apply Yd.R_alloc | apply Yd.R_drewN | apply Yd.R_drew)); exact HO401.out, by repeat (first | (with_reducible first | exact HB.out | apply below_alloc | apply pw_below_drewN | apply below_drew1 | refine below_set ?_ GE368.out) | exact HB.out)⟩
                  ·rw [if_neg c135] at H
                   exact absurd H (by simp)
              ·rw [if_neg c121] at H
               exact absurd H (by simp)
           ·rw [if_neg c110] at H
            exact absurd H (by simp)
          ·rw [if_neg c109] at H
           exact absurd H (by simp)
         ·rw [if_neg c108] at H
          exact absurd H (by simp)

theorem head_Write.calls (k : Nat) (a0_0 : ByteArray) (a0_1 : ByteArray) (a0_2 : ByteArray) (a0_3 : ByteArray) (A0_4 : Option Addr) (c0_4 : Nat) (l0_4 : List (S38)) (r1 : List Int) (r2 : Int) (w : World) (hml : ML w) (hr0_4 : Kd.C k38 w A0_4 l0_4.length l0_4) (hc0_4 : l0_4.length ≤ c0_4) (h : head_Write.f k a0_0 a0_1 a0_2 a0_3 l0_4 = some (r1, r2)) :
    Calls Tryd.prog 21 #[.agg #[.string a0_0, .string a0_1, .string a0_2, .string a0_3, .slice A0_4 l0_4.length c0_4]] w fun e w' => ∃ v0_ : Value, e = .returned (.tuple #[v0_, .int .i64 r2]) ∧ Kd.V (Kd.int .u8) 5 w' w.heap.size (fun k_ => (w.heap.size ≤ k_)) v0_ r1 ∧ Below w.heap.size w w' :=
  (head_Write.calls0 k a0_0 a0_1 a0_2 a0_3 A0_4 c0_4 l0_4 r1 r2 w hml hr0_4 hc0_4 h).mono fun _ _ h => by
    obtain ⟨v, h1, h2, h3⟩ := h
    exact ⟨v, h1, Yd.R_V h2 (fun _ hk => hk), h3⟩

end Go.Proofs.YtabkdmfnafeaeaaDoor.Q
