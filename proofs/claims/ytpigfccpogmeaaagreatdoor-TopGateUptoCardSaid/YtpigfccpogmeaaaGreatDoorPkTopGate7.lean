/- Walks and plain facts, joined out of several texts: what the row of TopGate leads to. -/
import Derived.Test.YtpigfccpogmeaaaGreatDoorPkTopGate6
section
namespace Go.Proofs.YtpigfccpogmeaaaGreatDoor.S
open Go.RowKit Go.Proofs.YtpigfccpogmeaaaGreatDoorW.PrintWords Go.Proofs.YtpigfccpogmeaaaGreatDoorW.PrintLast Go.Proofs.YtpigfccpogmeaaaGreatDoorW.PrintMore
attribute [local go_sem] max2_int min2_int max_two min_two max_three min_three max_four min_four
attribute [local go_sem] fbin_eql fbin_neq fbin_lss fbin_leq fbin_gtr fbin_geq frun_add frun_sub frun_mul frun_quo frun_store fun_neg fcv_int fcv_same fb88 fb89
set_option linter.unusedVariables false
set_option linter.unusedSimpArgs false
mutual
def head_Write.j0 : Nat → Bool → ByteArray → ByteArray → ByteArray → ByteArray → List (S88) → Option (List Int × Int)
 | 0, _, _, _, _, _, _ => none
 | k + 1, x4, x299000, x299001, x299002, x299003, x299004 => head_Write.l0 k x4 0 x299004 (x299004.length : Int) 0 x299000 x299001 x299002 x299003 x299004
def head_Write.l0 : Nat → Bool → Int → List (S88) → Int → Int → ByteArray → ByteArray → ByteArray → ByteArray → List (S88) → Option (List Int × Int)
 | 0, _, _, _, _, _, _, _, _, _, _ => none
 | k + 1, x4, x5, x27, x28, x29, x299000, x299001, x299002, x299003, x299004 => if x29 < x28 then (if 0 ≤ x29 then (if x29 < (x27.length : Int) then (if x4 = true then ((head_token.f k ((rd_T88 x27 x29).f0)).bind fun t304 => (if t304 = true then ((head_lower.f ((rd_T88 x27 x29).f0)).bind fun t305 => (if t305.toList = ((rd_T88 x27 x29).f0).toList then ((head_value.f k ((rd_T88 x27 x29).f1)).bind fun t306 => (if ((rd_T88 x27 x29).f0).toList = ([104, 111, 115, 116] : List UInt8) then ((head_Host.f k ((rd_T88 x27 x29).f1)).bind fun bt307 => (if t306 = true then (if bt307.2 = true then (head_Write.l0 k (bt307.1.toList == x299003.toList) (wrap64 (x5 + 1)) x27 x28 (wrap64 (x29 + 1)) x299000 x299001 x299002 x299003 x299004) else (head_Write.l0 k false (wrap64 (x5 + 1)) x27 x28 (wrap64 (x29 + 1)) x299000 x299001 x299002 x299003 x299004)) else (head_Write.l0 k false (wrap64 (x5 + 1)) x27 x28 (wrap64 (x29 + 1)) x299000 x299001 x299002 x299003 x299004))) else (head_Write.l0 k t306 x5 x27 x28 (wrap64 (x29 + 1)) x299000 x299001 x299002 x299003 x299004))) else (if ((rd_T88 x27 x29).f0).toList = ([104, 111, 115, 116] : List UInt8) then ((head_Host.f k ((rd_T88 x27 x29).f1)).bind fun bt309 => (head_Write.l0 k false (wrap64 (x5 + 1)) x27 x28 (wrap64 (x29 + 1)) x299000 x299001 x299002 x299003 x299004)) else (head_Write.l0 k false x5 x27 x28 (wrap64 (x29 + 1)) x299000 x299001 x299002 x299003 x299004)))) else (if ((rd_T88 x27 x29).f0).toList = ([104, 111, 115, 116] : List UInt8) then ((head_Host.f k ((rd_T88 x27 x29).f1)).bind fun bt311 => (head_Write.l0 k false (wrap64 (x5 + 1)) x27 x28 (wrap64 (x29 + 1)) x299000 x299001 x299002 x299003 x299004)) else (head_Write.l0 k false x5 x27 x28 (wrap64 (x29 + 1)) x299000 x299001 x299002 x299003 x299004)))) else (if ((rd_T88 x27 x29).f0).toList = ([104, 111, 115, 116] : List UInt8) then ((head_Host.f k ((rd_T88 x27 x29).f1)).bind fun bt313 => (head_Write.l0 k false (wrap64 (x5 + 1)) x27 x28 (wrap64 (x29 + 1)) x299000 x299001 x299002 x299003 x299004)) else (head_Write.l0 k false x5 x27 x28 (wrap64 (x29 + 1)) x299000 x299001 x299002 x299003 x299004))) else (none)) else (none)) else (if x4 = true then (head_Write.j2 k (x5 != 1) x299000 x299001 x299002 x299003 x299004) else (head_Write.j2 k true x299000 x299001 x299002 x299003 x299004))
def head_Write.j2 : Nat → Bool → ByteArray → ByteArray → ByteArray → ByteArray → List (S88) → Option (List Int × Int)
 | 0, _, _, _, _, _, _ => none
 | k + 1, x79, x299000, x299001, x299002, x299003, x299004 => if x79 = true then (some (([] : List Int), 4)) else (if x299000.size + 1 ≤ 9223372036854775807 then (if (x299000 ++ (⟨#[32]⟩ : ByteArray)).size + x299001.size ≤ 9223372036854775807 then (if ((x299000 ++ (⟨#[32]⟩ : ByteArray)) ++ x299001).size ≤ 9223372036854775807 then ((some (bytesOf ((x299000 ++ (⟨#[32]⟩ : ByteArray)) ++ x299001) : List Int)).bind fun y315 => (if x299002.toList = ([] : List UInt8) then (head_Write.j3 k y315 x299000 x299001 x299002 x299003 x299004) else (if 1 + x299002.size ≤ 9223372036854775807 then (if y315.length + ((⟨#[63]⟩ : ByteArray) ++ x299002).size < 140737488355328 then (head_Write.j3 k (y315 ++ bytesOf ((⟨#[63]⟩ : ByteArray) ++ x299002)) x299000 x299001 x299002 x299003 x299004) else (none)) else (none)))) else (none)) else (none)) else (none))
def head_Write.j3 : Nat → List Int → ByteArray → ByteArray → ByteArray → ByteArray → List (S88) → Option (List Int × Int)
 | 0, _, _, _, _, _, _ => none
 | k + 1, x10, x299000, x299001, x299002, x299003, x299004 => if x10.length + 11 < 140737488355328 then (head_Write.l1 k (x10 ++ bytesOf (⟨#[32, 72, 84, 84, 80, 47, 49, 46, 49, 13, 10]⟩ : ByteArray)) x299004 (x299004.length : Int) 0 x299000 x299001 x299002 x299003 x299004) else (none)
def head_Write.l1 : Nat → List Int → List (S88) → Int → Int → ByteArray → ByteArray → ByteArray → ByteArray → List (S88) → Option (List Int × Int)
 | 0, _, _, _, _, _, _, _, _, _ => none
 | k + 1, x10, x98, x99, x100, x299000, x299001, x299002, x299003, x299004 => if x100 < x99 then (if 0 ≤ x100 then (if x100 < (x98.length : Int) then (if ((rd_T88 x98 x100).f0).size + 2 ≤ 9223372036854775807 then (if (((rd_T88 x98 x100).f0) ++ (⟨#[58, 32]⟩ : ByteArray)).size + ((rd_T88 x98 x100).f1).size ≤ 9223372036854775807 then (if ((((rd_T88 x98 x100).f0) ++ (⟨#[58, 32]⟩ : ByteArray)) ++ ((rd_T88 x98 x100).f1)).size + 2 ≤ 9223372036854775807 then (if x10.length + (((((rd_T88 x98 x100).f0) ++ (⟨#[58, 32]⟩ : ByteArray)) ++ ((rd_T88 x98 x100).f1)) ++ (⟨#[13, 10]⟩ : ByteArray)).size < 140737488355328 then (head_Write.l1 k (x10 ++ bytesOf (((((rd_T88 x98 x100).f0) ++ (⟨#[58, 32]⟩ : ByteArray)) ++ ((rd_T88 x98 x100).f1)) ++ (⟨#[13, 10]⟩ : ByteArray))) x98 x99 (wrap64 (x100 + 1)) x299000 x299001 x299002 x299003 x299004) else (none)) else (none)) else (none)) else (none)) else (none)) else (none)) else (if x10.length + 2 < 140737488355328 then ((some (x10 ++ bytesOf (⟨#[13, 10]⟩ : ByteArray) : List Int)).bind fun y329 => (if (x299004.length : Int) > 32 then (some (([] : List Int), 6)) else (if (y329.length : Int) > 2048 then (some (([] : List Int), 6)) else (some (y329, 0))))) else (none))
end
def head_Write.f (k : Nat) (a0_0 : ByteArray) (a0_1 : ByteArray) (a0_2 : ByteArray) (a0_3 : ByteArray) (l0_4 : List (S88)) : Option (List Int × Int) := (head_token.f k a0_0).bind fun t299 => (if t299 = true then ((head_path.f k a0_1).bind fun t300 => (if t300 = true then ((head_such.f k a0_2 true).bind fun t301 => (head_Write.j0 k t301 a0_0 a0_1 a0_2 a0_3 l0_4)) else (head_Write.j0 k false a0_0 a0_1 a0_2 a0_3 l0_4))) else (head_Write.j0 k false a0_0 a0_1 a0_2 a0_3 l0_4))
theorem head_Write.mono_l : ∀ k, (∀ y0 y1 y2 y3 y4 y5, LeO (head_Write.j0 k y0 y1 y2 y3 y4 y5) (head_Write.j0 (k + 1) y0 y1 y2 y3 y4 y5)) ∧ (∀ y0 y1 y2 y3 y4 y5 y6 y7 y8 y9, LeO (head_Write.l0 k y0 y1 y2 y3 y4 y5 y6 y7 y8 y9) (head_Write.l0 (k + 1) y0 y1 y2 y3 y4 y5 y6 y7 y8 y9)) ∧ (∀ y0 y1 y2 y3 y4 y5, LeO (head_Write.j2 k y0 y1 y2 y3 y4 y5) (head_Write.j2 (k + 1) y0 y1 y2 y3 y4 y5)) ∧ (∀ y0 y1 y2 y3 y4 y5, LeO (head_Write.j3 k y0 y1 y2 y3 y4 y5) (head_Write.j3 (k + 1) y0 y1 y2 y3 y4 y5)) ∧ (∀ y0 y1 y2 y3 y4 y5 y6 y7 y8, LeO (head_Write.l1 k y0 y1 y2 y3 y4 y5 y6 y7 y8) (head_Write.l1 (k + 1) y0 y1 y2 y3 y4 y5 y6 y7 y8))
 | 0 => ⟨fun _ _ _ _ _ _ r h => by simp [head_Write.j0] at h, fun _ _ _ _ _ _ _ _ _ _ r h => by simp [head_Write.l0] at h, fun _ _ _ _ _ _ r h => by simp [head_Write.j2] at h, fun _ _ _ _ _ _ r h => by simp [head_Write.j3] at h, fun _ _ _ _ _ _ _ _ _ r h => by simp [head_Write.l1] at h⟩
 | k + 1 => by
  obtain ⟨ih0, ih1, ih2, ih3, ih4⟩ := head_Write.mono_l k;refine ⟨?_, ?_, ?_, ?_, ?_⟩
  ·intro y0 y1 y2 y3 y4 y5;unfold head_Write.j0
   repeat' with_reducible first | exact ih0 _ _ _ _ _ _ | exact ih1 _ _ _ _ _ _ _ _ _ _ | exact ih2 _ _ _ _ _ _ | exact ih3 _ _ _ _ _ _ | exact ih4 _ _ _ _ _ _ _ _ _ | exact head_Host.mono _ _ | exact head_path.mono _ _ | exact head_such.mono _ _ _ | exact head_token.mono _ _ | exact head_value.mono _ _ | exact LeO.refl _ | exact LeO.none _ | refine LeO.ite ?_ ?_ | refine LeO.bind ?_ (fun _ => ?_)
  ·intro y0 y1 y2 y3 y4 y5 y6 y7 y8 y9;unfold head_Write.l0
   repeat' with_reducible first | exact ih0 _ _ _ _ _ _ | exact ih1 _ _ _ _ _ _ _ _ _ _ | exact ih2 _ _ _ _ _ _ | exact ih3 _ _ _ _ _ _ | exact ih4 _ _ _ _ _ _ _ _ _ | exact head_Host.mono _ _ | exact head_path.mono _ _ | exact head_such.mono _ _ _ | exact head_token.mono _ _ | exact head_value.mono _ _ | exact LeO.refl _ | exact LeO.none _ | refine LeO.ite ?_ ?_ | refine LeO.bind ?_ (fun _ => ?_)
  ·intro y0 y1 y2 y3 y4 y5;unfold head_Write.j2
   repeat' with_reducible first | exact ih0 _ _ _ _ _ _ | exact ih1 _ _ _ _ _ _ _ _ _ _ | exact ih2 _ _ _ _ _ _ | exact ih3 _ _ _ _ _ _ | exact ih4 _ _ _ _ _ _ _ _ _ | exact head_Host.mono _ _ | exact head_path.mono _ _ | exact head_such.mono _ _ _ | exact head_token.mono _ _ | exact head_value.mono _ _ | exact LeO.refl _ | exact LeO.none _ | refine LeO.ite ?_ ?_ | refine LeO.bind ?_ (fun _ => ?_)
  ·intro y0 y1 y2 y3 y4 y5;unfold head_Write.j3
   repeat' with_reducible first | exact ih0 _ _ _ _ _ _ | exact ih1 _ _ _ _ _ _ _ _ _ _ | exact ih2 _ _ _ _ _ _ | exact ih3 _ _ _ _ _ _ | exact ih4 _ _ _ _ _ _ _ _ _ | exact head_Host.mono _ _ | exact head_path.mono _ _ | exact head_such.mono _ _ _ | exact head_token.mono _ _ | exact head_value.mono _ _ | exact LeO.refl _ | exact LeO.none _ | refine LeO.ite ?_ ?_ | refine LeO.bind ?_ (fun _ => ?_)
  intro y0 y1 y2 y3 y4 y5 y6 y7 y8;unfold head_Write.l1
  repeat' with_reducible first | exact ih0 _ _ _ _ _ _ | exact ih1 _ _ _ _ _ _ _ _ _ _ | exact ih2 _ _ _ _ _ _ | exact ih3 _ _ _ _ _ _ | exact ih4 _ _ _ _ _ _ _ _ _ | exact head_Host.mono _ _ | exact head_path.mono _ _ | exact head_such.mono _ _ _ | exact head_token.mono _ _ | exact head_value.mono _ _ | exact LeO.refl _ | exact LeO.none _ | refine LeO.ite ?_ ?_ | refine LeO.bind ?_ (fun _ => ?_)
theorem head_Write.mono : ∀ a0 a1 a2 a3 a4 k, LeO (head_Write.f k a0 a1 a2 a3 a4) (head_Write.f (k + 1) a0 a1 a2 a3 a4) := by
 intro a0 a1 a2 a3 a4 k;obtain ⟨ih0, ih1, ih2, ih3, ih4⟩ := head_Write.mono_l k;unfold head_Write.f
 repeat' with_reducible first | exact ih0 _ _ _ _ _ _ | exact ih1 _ _ _ _ _ _ _ _ _ _ | exact ih2 _ _ _ _ _ _ | exact ih3 _ _ _ _ _ _ | exact ih4 _ _ _ _ _ _ _ _ _ | exact head_Host.mono _ _ | exact head_path.mono _ _ | exact head_such.mono _ _ _ | exact head_token.mono _ _ | exact head_value.mono _ _ | exact LeO.refl _ | exact LeO.none _ | refine LeO.ite ?_ ?_ | refine LeO.bind ?_ (fun _ => ?_)
def head_Write.T6 : Bool × List (List Nat × List Nat) := (true, [([], []), ([0], [0]), ([1], [1]), ([2, 1], [1, 2]), ([3, 1, 1], [1, 3]), ([1, 4], [1, 4]), ([5, 4], [5]), ([6], [6]), ([7, 6], [6, 7]), ([8, 6, 6], [6, 8]), ([6], [6]), ([10, 6], [6, 10]), ([9, 11, 6], [6, 9, 11]), ([6, 12], [6, 12]), ([13, 9], [13]), ([14], [14]), ([15, 14], [14, 15]), ([16, 14, 14], [14, 16]), ([14, 17], [14, 17]), ([18, 17, 0, 1, 2, 3, 4, 5, 6, 7, 8, 9, 10, 11, 12, 13, 14, 15, 16, 17, 18], [0, 18])])
def head_Write.B6 : List Nat := [0, 1, 3, 7, 15, 31, 63, 127, 255, 511, 127, 1151, 4095, 8191, 16383, 32767, 65535, 131071, 262143, 524287]
theorem head_Write.tab6 : rtab .any (opsOf Tryz.f10 6) = head_Write.T6 := by kernel_rfl
theorem head_Write.bits6 : waitsOk head_Write.T6.2 head_Write.B6 = true := by kernel_rfl
abbrev head_Write.a0 : Array Bool := #[false, false, false, false, false, false, false, false, false, false, false, false, false, false, false, false, false, false, false, false]
abbrev head_Write.a1 : Array Bool := #[true, false, false, false, false, false, false, false, false, false, false, false, false, false, false, false, false, false, false, false]
abbrev head_Write.a2 : Array Bool := #[true, true, false, false, false, false, false, false, false, false, false, false, false, false, false, false, false, false, false, false]
abbrev head_Write.a3 : Array Bool := #[true, true, true, false, false, false, false, false, false, false, false, false, false, false, false, false, false, false, false, false]
abbrev head_Write.a4 : Array Bool := #[true, true, true, true, false, false, false, false, false, false, false, false, false, false, false, false, false, false, false, false]
abbrev head_Write.a5 : Array Bool := #[true, true, true, true, true, false, false, false, false, false, false, false, false, false, false, false, false, false, false, false]
abbrev head_Write.a6 : Array Bool := #[true, true, true, true, true, true, false, false, false, false, false, false, false, false, false, false, false, false, false, false]
abbrev head_Write.a7 : Array Bool := #[true, true, true, true, true, true, true, false, false, false, false, false, false, false, false, false, false, false, false, false]
abbrev head_Write.a8 : Array Bool := #[true, true, true, true, true, true, true, true, false, false, false, false, false, false, false, false, false, false, false, false]
abbrev head_Write.a9 : Array Bool := #[true, true, true, true, true, true, true, true, false, false, true, false, false, false, false, false, false, false, false, false]
abbrev head_Write.a10 : Array Bool := #[true, true, true, true, true, true, true, true, true, false, true, false, false, false, false, false, false, false, false, false]
abbrev head_Write.a11 : Array Bool := #[true, true, true, true, true, true, true, true, true, false, true, true, false, false, false, false, false, false, false, false]
abbrev head_Write.a12 : Array Bool := #[true, true, true, true, true, true, true, true, true, true, true, true, false, false, false, false, false, false, false, false]
abbrev head_Write.a13 : Array Bool := #[true, true, true, true, true, true, true, true, true, true, true, true, true, false, false, false, false, false, false, false]
abbrev head_Write.a14 : Array Bool := #[true, true, true, true, true, true, true, true, true, true, true, true, true, true, false, false, false, false, false, false]
abbrev head_Write.a15 : Array Bool := #[true, true, true, true, true, true, true, true, true, true, true, true, true, true, true, false, false, false, false, false]
abbrev head_Write.a16 : Array Bool := #[true, true, true, true, true, true, true, true, true, true, true, true, true, true, true, true, false, false, false, false]
abbrev head_Write.a17 : Array Bool := #[true, true, true, true, true, true, true, true, true, true, true, true, true, true, true, true, true, false, false, false]
abbrev head_Write.a18 : Array Bool := #[true, true, true, true, true, true, true, true, true, true, true, true, true, true, true, true, true, true, false, false]
abbrev head_Write.a19 : Array Bool := #[true, true, true, true, true, true, true, true, true, true, true, true, true, true, true, true, true, true, true, false]
abbrev head_Write.a20 : Array Bool := #[true, true, true, true, true, true, true, true, true, true, true, true, true, true, true, true, true, true, true, true]
abbrev head_Write.a21 : Array Bool := #[true, true, true, true, true, true, true, true, true, false, false, false, false, false, false, false, false, false, false, false]
abbrev head_Write.a22 : Array Bool := #[true, true, true, true, true, true, true, true, true, true, false, false, false, false, false, false, false, false, false, false]
abbrev head_Write.a23 : Array Bool := #[true, true, true, true, true, true, true, true, true, true, true, false, false, false, false, false, false, false, false, false]
set_option maxHeartbeats 8000000 in
set_option maxRecDepth 100000 in
theorem head_Write.calls0 (k : Nat) (a0_0 : ByteArray) (a0_1 : ByteArray) (a0_2 : ByteArray) (a0_3 : ByteArray) (A0_4 : Option Addr) (c0_4 : Nat) (l0_4 : List (S88)) (r1 : List Int) (r2 : Int) (w : World) (hml : ML w) (hr0_4 : Kd.C k88 w A0_4 l0_4.length l0_4) (hc0_4 : l0_4.length ≤ c0_4) (h : head_Write.f k a0_0 a0_1 a0_2 a0_3 l0_4 = some (r1, r2)) :
  Calls Tryz.prog 10 #[.agg #[.string a0_0, .string a0_1, .string a0_2, .string a0_3, .slice A0_4 l0_4.length c0_4]] w fun e w' => ∃ v0_ : Value, e = .returned (.tuple #[v0_, .int .i64 r2]) ∧ Yd.R (Kd.int .u8) 5 w' w.heap.size (fun _ => True) v0_ r1 ∧ Below w.heap.size w w' := by
 have HML := zN hml;clear hml;have kcs9 := fun (w_ : World) (s_ : ByteArray) => Lib.run_convert_string_bytes (P := Tryz.prog) w_ 9 46 5 s_ Tryz.underlying9 Tryz.underlying46 Tryz.underlying5
 have hu25 := Tryz.underlying25;have hu88 := Tryz.underlying88;have HR0_4 := zN hr0_4;have HC0_4 := zN hc0_4;clear hr0_4 hc0_4;have HB := zN (Below.refl w.heap.size w);have H : ((head_token.f k a0_0).bind fun t299 => (if t299 = true then ((head_path.f k a0_1).bind fun t300 => (if t300 = true then ((head_such.f k a0_2 true).bind fun t301 => (head_Write.j0 k t301 a0_0 a0_1 a0_2 a0_3 l0_4)) else (head_Write.j0 k false a0_0 a0_1 a0_2 a0_3 l0_4))) else (head_Write.j0 k false a0_0 a0_1 a0_2 a0_3 l0_4))) = some (r1, r2) := h;clear h;have HC2 := zN H;clear H;go_enter Tryz.func10, Tryz.ntmps10;go_upto_region 1 with (first | ((with_reducible refine gate_dst (N := 1) rfl ?_); (try (refine gate_guard (by rfl) ?_; dsimp only)); refine zX #[.string a0_0, .string a0_1, .string a0_2, .string a0_3, .slice A0_4 l0_4.length c0_4] 25 rfl ?_; intro gb298 hg w3 hbox hb; have BK298 := zN hbox; have GW298 := zY w (zB HB) hg; have GE298 := zY w (zB HB) hg; replace HB := zk HB hb; clear hb hbox hg))
 (try simp only [Act.put, List.setIfInBounds_toArray, List.set_cons_zero, List.set_cons_succ]);go_cut [4] (fun v4 wc => ∃ (kq : Nat) (x4_1 : Bool), v4 = .bool x4_1 ∧ Aside0 (head_Write.j0 kq x4_1 a0_0 a0_1 a0_2 a0_3 l0_4 = some (r1, r2)) ∧ Aside0 (kq ≤ k) ∧ Aside0 (wc.heap[gb298]? = some (.cells #[.string a0_0, .string a0_1, .string a0_2, .string a0_3, (.slice A0_4 l0_4.length c0_4)] 25 (0, 0))) ∧ Aside0 (Below w.heap.size w wc))
 case first =>
  have H := HC2.out;clear HC2;obtain ⟨t299, A4, H⟩ := zA H;(try dsimp only at H);by_cases c5 : t299 = true;rotate_left
  ·replace c5 := zq.mpr c5;subst c5;have H1 := H; rw [zn (show ¬ (false = true) by decide)] at H1;clear H;have H := H1;clear H1;have H' := zN H;clear H;obtain ⟨hcz11_0, hcz11_1, hcz11_2, hcz11_3, hcz11_4, hfz11_0, hfz11_1, hfz11_2, hfz11_3, hfz11_4⟩ := zC5 BK298;go_wp2_with (first | ((with_reducible refine gate_callee (f := 22) rfl ?_); refine zg (some 15) Tryz.func22 #[.string a0_0] ?_; (with_reducible refine (head_token.calls k a0_0 false _ A4.out).mono ?_); rintro e w' ⟨rfl, ⟨nd, rfl⟩⟩; refine ⟨_, rfl, ?_⟩));go_meet
   case rel => exact ⟨_, (false), zI, H', ⟨by first | omega | exact zh _⟩, ⟨zK BK298⟩, ⟨zB1 HB GE298⟩⟩
  subst c5;have H1 := H; rw [zp rfl] at H1;clear H;have H := H1;clear H1;obtain ⟨t300, A6, H⟩ := zA H;(try dsimp only at H);by_cases c7 : t300 = true
  ·subst c7;have H1 := H; rw [zp rfl] at H1;clear H;have H := H1;clear H1;obtain ⟨t301, A8, H⟩ := zA H;(try dsimp only at H);have H' := zN H;clear H;obtain ⟨hcz9_0, hcz9_1, hcz9_2, hcz9_3, hcz9_4, hfz9_0, hfz9_1, hfz9_2, hfz9_3, hfz9_4⟩ := zC5 BK298;go_wp2_with (first | ((with_reducible refine gate_callee (f := 22) rfl ?_); refine zg (some 15) Tryz.func22 #[.string a0_0] ?_; (with_reducible refine (head_token.calls k a0_0 true _ A4.out).mono ?_); rintro e w' ⟨rfl, ⟨nd, rfl⟩⟩; refine ⟨_, rfl, ?_⟩) | (go_at_call 23; (with_reducible refine (head_path.calls k a0_1 true _ A6.out).mono ?_); rintro e w' ⟨rfl, ⟨nd, rfl⟩⟩) | (go_at_call 24; (with_reducible refine (head_such.calls k a0_2 true t301 _ A8.out).mono ?_); rintro e w' ⟨rfl, ⟨nd, rfl⟩⟩));go_meet
   case rel => exact ⟨_, (t301), zI, H', ⟨by first | omega | exact zh _⟩, ⟨zK BK298⟩, ⟨zB1 HB GE298⟩⟩
  replace c7 := zq.mpr c7;subst c7;have H1 := H; rw [zn (show ¬ (false = true) by decide)] at H1;clear H;have H := H1;clear H1;have H' := zN H;clear H;obtain ⟨hcz10_0, hcz10_1, hcz10_2, hcz10_3, hcz10_4, hfz10_0, hfz10_1, hfz10_2, hfz10_3, hfz10_4⟩ := zC5 BK298;go_wp2_with (first | ((with_reducible refine gate_callee (f := 22) rfl ?_); refine zg (some 15) Tryz.func22 #[.string a0_0] ?_; (with_reducible refine (head_token.calls k a0_0 true _ A4.out).mono ?_); rintro e w' ⟨rfl, ⟨nd, rfl⟩⟩; refine ⟨_, rfl, ?_⟩) | (go_at_call 23; (with_reducible refine (head_path.calls k a0_1 false _ A6.out).mono ?_); rintro e w' ⟨rfl, ⟨nd, rfl⟩⟩));go_meet
  case rel => exact ⟨_, (false), zI, H', ⟨by first | omega | exact zh _⟩, ⟨zK BK298⟩, ⟨zB1 HB GE298⟩⟩
 case rest =>
  clear HC2;obtain ⟨kq, x4_1, rfl, HA, HJ1, BK298, HB⟩ := hcut;cases kq with
  | zero => exact absurd HA.out (by simp [head_Write.j0])
  | succ kj1 =>
   have H := HA.out;clear HA;simp only [head_Write.j0] at H;have H' := zN H;clear H;obtain ⟨hcz12_0, hcz12_1, hcz12_2, hcz12_3, hcz12_4, hfz12_0, hfz12_1, hfz12_2, hfz12_3, hfz12_4⟩ := zC5 BK298;go_wp2;go_loopg [4, 5, 29] kj1 (fun kq v4 v5 v29 w' => ∃ (x4_2 : Bool) (x5_2 : Int) (x29_2 : Int), v4 = .bool x4_2 ∧ v5 = .int .i64 x5_2 ∧ v29 = .int .i64 x29_2 ∧ Aside0 (head_Write.l0 kq x4_2 x5_2 l0_4 (l0_4.length : Int) x29_2 a0_0 a0_1 a0_2 a0_3 l0_4 = some (r1, r2)) ∧ Aside0 (kq ≤ kj1) ∧ Aside0 (w'.heap[gb298]? = some (.cells #[.string a0_0, .string a0_1, .string a0_2, .string a0_3, (.slice A0_4 l0_4.length c0_4)] 25 (0, 0))) ∧ Aside0 (Below w.heap.size w w'))
   case atStart => exact ⟨(x4_1), (0), (0), zI, zI, zI, H', ⟨zh _⟩, ⟨zK BK298⟩, ⟨zB1 HB GE298⟩⟩
   case round =>
    clear H'
    try clear hcz12_0
    try clear hcz12_1
    try clear hcz12_2
    try clear hcz12_3
    try clear hcz12_4
    try clear hfz12_0
    try clear hfz12_1
    try clear hfz12_2
    try clear hfz12_3
    try clear hfz12_4
    obtain ⟨x4_2, x5_2, x29_2, rfl, rfl, rfl, HA, HK2, BK298, HB⟩ := hrel;cases gk with
    | zero => exact absurd HA.out (by simp [head_Write.l0])
    | succ k2 =>
     have H := HA.out;clear HA;simp only [head_Write.l0] at H;by_cases c13 : x29_2 < (l0_4.length : Int);rotate_left
     ·rw [zn c13] at H;have c13b0 := zf c13;clear c13;have HC105 := zN H;clear H;go_upto_region 12 with (fail)
      go_cut [79] (fun v79 wc => ∃ (kq : Nat) (x79_104 : Bool), v79 = .bool x79_104 ∧ Aside0 (head_Write.j2 kq x79_104 a0_0 a0_1 a0_2 a0_3 l0_4 = some (r1, r2)) ∧ Aside0 (kq ≤ k2) ∧ Aside0 (wc.heap[gb298]? = some (.cells #[.string a0_0, .string a0_1, .string a0_2, .string a0_3, (.slice A0_4 l0_4.length c0_4)] 25 (0, 0))) ∧ Aside0 (Below w.heap.size w wc))
      case first =>
       have H := HC105.out;clear HC105;by_cases c106 : x4_2 = true
       ·subst c106;have H1 := H; rw [zp rfl] at H1;clear H;have H := H1;clear H1;have H' := zN H;clear H;go_wp2;go_meet
        case rel => exact ⟨_, ((x5_2 != 1)), zI, H', ⟨by have := HJ1.out; have := HK2.out; first | omega | exact zh _⟩, ⟨zK BK298⟩, ⟨zB1 HB GE298⟩⟩
       replace c106 := zq.mpr c106;subst c106;have H1 := H; rw [zn (show ¬ (false = true) by decide)] at H1;clear H;have H := H1;clear H1;have H' := zN H;clear H;go_wp2;go_meet
       case rel => exact ⟨_, (true), zI, H', ⟨by have := HJ1.out; have := HK2.out; first | omega | exact zh _⟩, ⟨zK BK298⟩, ⟨zB1 HB GE298⟩⟩
      case rest =>
       clear HC105
       try clear c13
       try clear c13b0
       obtain ⟨kq, x79_104, rfl, HA, HJ104, BK298, HB⟩ := hcut;cases kq with
       | zero => exact absurd HA.out (by simp [head_Write.j2])
       | succ kj104 =>
        have H := HA.out;clear HA;simp only [head_Write.j2] at H;by_cases c107 : x79_104 = true
        ·subst c107;have H1 := H; rw [zp rfl] at H1;clear H;have H := H1;clear H1;simp only [Option.some.injEq, Prod.mk.injEq] at H;obtain ⟨rfl, rfl⟩ := H;go_wp2;go_ret2;exact ⟨_, zE, by first | exact Yd.R_nil _ _ _ _ _ | exact Kd.N_nil _ _ _ _ _ | exact Kd.V_nil _ _ _ _ _ | exact Kd.Q_nil _ _ _ _ _ | exact Kd.S_nil _ _ _ _ _, zB1 HB GE298⟩
        replace c107 := zq.mpr c107;subst c107;have H1 := H; rw [zn (show ¬ (false = true) by decide)] at H1;clear H;have H := H1;clear H1;by_cases c108 : a0_0.size + 1 ≤ 9223372036854775807;rotate_left
        ·rw [zn c108] at H;exact absurd H (by simp)
        rw [zp c108] at H;have c108b0 := zu c108;have c108b1 := zt c108
        try have c108b2 : (9223372036854775807 < a0_0.size + 1) = False := eq_false (Nat.not_lt.2 c108)
        by_cases c109 : (a0_0 ++ (⟨#[32]⟩ : ByteArray)).size + a0_1.size ≤ 9223372036854775807;rotate_left
        ·rw [zn c109] at H;exact absurd H (by simp)
        rw [zp c109] at H;have c109b0 := zu c109;have c109b1 := zt c109
        try have c109b2 : (9223372036854775807 < (a0_0 ++ (⟨#[32]⟩ : ByteArray)).size + a0_1.size) = False := eq_false (Nat.not_lt.2 c109)
        by_cases c110 : ((a0_0 ++ (⟨#[32]⟩ : ByteArray)) ++ a0_1).size ≤ 9223372036854775807;rotate_left
        ·rw [zn c110] at H;exact absurd H (by simp)
        rw [zp c110] at H;have LMc110 := zN c110;clear c110;obtain ⟨y315, hy315⟩ : ∃ y_ : List Int, y_ = (bytesOf ((a0_0 ++ (⟨#[32]⟩ : ByteArray)) ++ a0_1)) := ⟨_, rfl⟩;replace H : (if a0_2.toList = ([] : List UInt8) then (head_Write.j3 kj104 y315 a0_0 a0_1 a0_2 a0_3 l0_4) else (if 1 + a0_2.size ≤ 9223372036854775807 then (if y315.length + ((⟨#[63]⟩ : ByteArray) ++ a0_2).size < 140737488355328 then (head_Write.j3 kj104 (y315 ++ bytesOf ((⟨#[63]⟩ : ByteArray) ++ a0_2)) a0_0 a0_1 a0_2 a0_3 l0_4) else (none)) else (none))) = some (r1, r2) := by first | (rw [hy315]; with_reducible exact H) | (have H2_ := (Option.bind_some _ _).symm.trans H; rw [hy315]; with_reducible exact H2_) | (have H2_ := (Option.bind_some _ _).symm.trans H; with_reducible exact H2_) | with_reducible exact H | (rw [hy315]; exact H) | exact H
        have Ny315 := zN hy315;clear hy315;have HC111 := zN H;clear H;obtain ⟨hcz112_0, hcz112_1, hcz112_2, hcz112_3, hcz112_4, hfz112_0, hfz112_1, hfz112_2, hfz112_3, hfz112_4⟩ := zC5 BK298;go_upto_if 89 with (first | ((with_reducible refine gate_dst (N := 86) rfl ?_); (try (refine gate_guard (by rfl) ?_; dsimp only)); refine Yd.R_bytes (s := ((a0_0 ++ (⟨#[32]⟩ : ByteArray)) ++ a0_1)) _ 5 ?hg (N := 86) ?hd (ok := fun _ => True) ?hr trivial (Below.refl _ _) (zh _) LMc110.out ?_; (case hd => rfl); (case hg => rfl); (case hr => first | (go_simp; done) | (go_simp; rfl)); intro v316 w113 ho114 hb hg_ hnew_; clear hg_ hnew_; (first | rw [← Ny315.out] at ho114 | (simp only [Int.reduceToNat] at ho114; rw [← Ny315.out] at ho114)); have HO317 := zN (Yd.R_lower ho114 (below_size (zB1 HB GE298))); replace BK298 := zj BK298 hb; replace HB := zk1 HB GE298 hb; clear hb ho114; obtain ⟨hcz115_0, hcz115_1, hcz115_2, hcz115_3, hcz115_4, hfz115_0, hfz115_1, hfz115_2, hfz115_3, hfz115_4⟩ := zC5 BK298))
        (try simp only [Act.put, List.setIfInBounds_toArray, List.set_cons_zero, List.set_cons_succ]);go_cut [10] (fun v10 wc => ∃ (kq : Nat) (x10_110 : List Int), Aside0 (head_Write.j3 kq x10_110 a0_0 a0_1 a0_2 a0_3 l0_4 = some (r1, r2)) ∧ Aside0 (kq ≤ kj104) ∧ Aside0 (Yd.R (Kd.int .u8) 5 wc w.heap.size (fun _ => True) v10 x10_110) ∧ Aside0 (wc.heap[gb298]? = some (.cells #[.string a0_0, .string a0_1, .string a0_2, .string a0_3, (.slice A0_4 l0_4.length c0_4)] 25 (0, 0))) ∧ Aside0 (Below w.heap.size w wc))
        case first =>
         have H := HC111.out;clear HC111;by_cases c116 : a0_2.toList = ([] : List UInt8)
         ·rw [zp c116] at H;have c116b0 := beq_iff_eq.mpr c116;have c116b1 := zc.mpr c116;have c116b2 : a0_2.toList.isEmpty = true := by simpa using c116
          clear c116;(first | rw [c116b0] | (simp only [i64_w, i32_w]; rw [c116b0]) | rw [c116b2] | skip);have H' := zN H;clear H;go_wp2;go_meet
          case rel => exact ⟨_, (y315), H', ⟨by have := HJ1.out; have := HK2.out; have := HJ104.out; first | omega | exact zh _⟩, ⟨by (with_reducible repeat (first | apply Yd.R_alloc | apply Yd.R_drewN | apply Yd.R_drew)); exact HO317.out⟩, ⟨zK BK298⟩, ⟨zB1 HB GE298⟩⟩
         rw [zn c116] at H;have c116b0 := zb.mpr c116;have c116b1 := bne_iff_ne.mpr c116;have c116b2 : a0_2.toList.isEmpty = false := by simpa using c116
         (first | rw [c116b0] | (simp only [i64_w, i32_w]; rw [c116b0]) | rw [c116b2] | skip);by_cases c117 : 1 + a0_2.size ≤ 9223372036854775807;rotate_left
         ·rw [zn c117] at H;exact absurd H (by simp)
         rw [zp c117] at H;have c117b0 := zu c117;have c117b1 := zt c117
         try have c117b2 : (9223372036854775807 < 1 + a0_2.size) = False := eq_false (Nat.not_lt.2 c117)
         by_cases c118 : y315.length + ((⟨#[63]⟩ : ByteArray) ++ a0_2).size < 140737488355328;rotate_left
         ·rw [zn c118] at H;exact absurd H (by simp)
         rw [zp c118] at H;have LMc118 := zN c118;clear c118;obtain ⟨y318, hy318⟩ : ∃ y_ : List Int, y_ = (y315 ++ bytesOf ((⟨#[63]⟩ : ByteArray) ++ a0_2)) := ⟨_, rfl⟩;replace H : (head_Write.j3 kj104 y318 a0_0 a0_1 a0_2 a0_3 l0_4) = some (r1, r2) := by first | (rw [hy318]; with_reducible exact H) | (have H2_ := (Option.bind_some _ _).symm.trans H; rw [hy318]; with_reducible exact H2_) | (have H2_ := (Option.bind_some _ _).symm.trans H; with_reducible exact H2_) | with_reducible exact H | (rw [hy318]; exact H) | exact H
         have Ny318 := zN hy318;clear hy318;have H' := zN H;clear H;obtain ⟨hcz119_0, hcz119_1, hcz119_2, hcz119_3, hcz119_4, hfz119_0, hfz119_1, hfz119_2, hfz119_3, hfz119_4⟩ := zC5 BK298;go_wp2_with (first | (at_builtin; refine Yd.append_str (w0 := w) w.heap.size rfl (.tmp 90) _ 46 9 5 rfl Tryz.underlying46 Tryz.underlying9 info5 v316 y315 ((⟨#[63]⟩ : ByteArray) ++ a0_2) rfl rfl ?aO ?aB ?aS ?aL ?_; (case aB => exact (zB1 HB GE298)); (case aO => exact (Yd.own_of_R (by (with_reducible repeat (first | apply Yd.R_alloc | apply Yd.R_drewN | apply Yd.R_drew)); exact HO317.out))); (case aS => exact (below_size (zB1 HB GE298))); (case aL => have := LMc118.out; omega); intro v319 w120 ho0 hb hg; have ho := Yd.R_of_own (ok := fun _ => True) ho0 (fun _ _ => trivial); clear ho0; have hat := True.intro; rw [← Ny318.out] at ho; change Yd.R (Kd.int .u8) 5 w120 w.heap.size (fun _ => True) v319 y318 at ho; replace BK298 := zN (blk_grown (g := gb298) (o := .cells #[.string a0_0, .string a0_1, .string a0_2, .string a0_3, .slice A0_4 l0_4.length c0_4] 25 (0, 0)) (zK BK298) hg (Yd.R_ne HO317.out BK298.out (by decide))); replace HB := zN hb; have HO320 := zN ho; clear HO317; clear ho hb hg hat));go_meet
         case rel => exact ⟨_, (y318), H', ⟨by have := HJ1.out; have := HK2.out; have := HJ104.out; first | omega | exact zh _⟩, ⟨by (with_reducible repeat (first | apply Yd.R_alloc | apply Yd.R_drewN | apply Yd.R_drew)); exact HO320.out⟩, ⟨zK BK298⟩, ⟨zB1 HB GE298⟩⟩
        case rest =>
         clear HC111
         try clear c13
         try clear c13b0
         try clear c107
         try clear c108
         try clear c108b0
         try clear c108b1
         try clear c108b2
         try clear c109
         try clear c109b0
         try clear c109b1
         try clear c109b2
         try clear c110
         try clear hcz112_0
         try clear hcz112_1
         try clear hcz112_2
         try clear hcz112_3
         try clear hcz112_4
         try clear hcz115_0
         try clear hcz115_1
         try clear hcz115_2
         try clear hcz115_3
         try clear hcz115_4
         try clear hfz112_0
         try clear hfz112_1
         try clear hfz112_2
         try clear hfz112_3
         try clear hfz112_4
         try clear hfz115_0
         try clear hfz115_1
         try clear hfz115_2
         try clear hfz115_3
         try clear hfz115_4
         obtain ⟨kq, x10_110, HA, HJ110, HO_10, BK298, HB⟩ := hcut;cases kq with
         | zero => exact absurd HA.out (by simp [head_Write.j3])
         | succ kj110 =>
          have H := HA.out;clear HA;simp only [head_Write.j3] at H;by_cases c121 : x10_110.length + 11 < 140737488355328;rotate_left
          ·rw [zn c121] at H;exact absurd H (by simp)
          rw [zp c121] at H;have LMc121 := zN c121;clear c121;obtain ⟨y321, hy321⟩ : ∃ y_ : List Int, y_ = (x10_110 ++ bytesOf (⟨#[32, 72, 84, 84, 80, 47, 49, 46, 49, 13, 10]⟩ : ByteArray)) := ⟨_, rfl⟩;replace H : (head_Write.l1 kj110 y321 l0_4 (l0_4.length : Int) 0 a0_0 a0_1 a0_2 a0_3 l0_4) = some (r1, r2) := by first | (rw [hy321]; with_reducible exact H) | (have H2_ := (Option.bind_some _ _).symm.trans H; rw [hy321]; with_reducible exact H2_) | (have H2_ := (Option.bind_some _ _).symm.trans H; with_reducible exact H2_) | with_reducible exact H | (rw [hy321]; exact H) | exact H
          have Ny321 := zN hy321;clear hy321;have H' := zN H;clear H;go_wp2_with (first | (at_builtin; refine Yd.append_str (w0 := w) w.heap.size rfl (.tmp 95) _ 46 9 5 rfl Tryz.underlying46 Tryz.underlying9 info5 u10 x10_110 (⟨#[32, 72, 84, 84, 80, 47, 49, 46, 49, 13, 10]⟩ : ByteArray) rfl rfl ?aO ?aB ?aS ?aL ?_; (case aB => exact (zB1 HB GE298)); (case aO => exact (Yd.own_of_R (by (with_reducible repeat (first | apply Yd.R_alloc | apply Yd.R_drewN | apply Yd.R_drew)); exact HO_10.out))); (case aS => exact (below_size (zB1 HB GE298))); (case aL => have := LMc121.out; have hz_ : (⟨#[32, 72, 84, 84, 80, 47, 49, 46, 49, 13, 10]⟩ : ByteArray).size = 11 := rfl; omega); intro v322 w122 ho0 hb hg; have ho := Yd.R_of_own (ok := fun _ => True) ho0 (fun _ _ => trivial); clear ho0; have hat := True.intro; rw [← Ny321.out] at ho; change Yd.R (Kd.int .u8) 5 w122 w.heap.size (fun _ => True) v322 y321 at ho; replace BK298 := zN (blk_grown (g := gb298) (o := .cells #[.string a0_0, .string a0_1, .string a0_2, .string a0_3, .slice A0_4 l0_4.length c0_4] 25 (0, 0)) (zK BK298) hg (Yd.R_ne HO_10.out BK298.out (by decide))); replace HB := zN hb; have HO323 := zN ho; clear HO_10; clear ho hb hg hat; obtain ⟨hcz123_0, hcz123_1, hcz123_2, hcz123_3, hcz123_4, hfz123_0, hfz123_1, hfz123_2, hfz123_3, hfz123_4⟩ := zC5 BK298));go_loopg [10, 100] kj110 (fun kq v10 v100 w' => ∃ (x10_5 : List Int) (x100_5 : Int), v100 = .int .i64 x100_5 ∧ Aside0 (head_Write.l1 kq x10_5 l0_4 (l0_4.length : Int) x100_5 a0_0 a0_1 a0_2 a0_3 l0_4 = some (r1, r2)) ∧ Aside0 (kq ≤ kj110) ∧ Aside0 (Yd.R (Kd.int .u8) 5 w' w.heap.size (fun _ => True) v10 x10_5) ∧ Aside0 (w'.heap[gb298]? = some (.cells #[.string a0_0, .string a0_1, .string a0_2, .string a0_3, (.slice A0_4 l0_4.length c0_4)] 25 (0, 0))) ∧ Aside0 (Below w.heap.size w w'))
          case atStart => exact ⟨(y321), (0), zI, H', ⟨zh _⟩, ⟨by (with_reducible repeat (first | apply Yd.R_alloc | apply Yd.R_drewN | apply Yd.R_drew)); exact HO323.out⟩, ⟨zK BK298⟩, ⟨zB1 HB GE298⟩⟩
          case round =>
           clear H'
           try clear c13
           try clear c13b0
           try clear c107
           try clear c108
           try clear c108b0
           try clear c108b1
           try clear c108b2
           try clear c109
           try clear c109b0
           try clear c109b1
           try clear c109b2
           try clear c110
           try clear c121
           try clear hcz112_0
           try clear hcz112_1
           try clear hcz112_2
           try clear hcz112_3
           try clear hcz112_4
           try clear hcz115_0
           try clear hcz115_1
           try clear hcz115_2
           try clear hcz115_3
           try clear hcz115_4
           try clear hcz123_0
           try clear hcz123_1
           try clear hcz123_2
           try clear hcz123_3
           try clear hcz123_4
           try clear hfz112_0
           try clear hfz112_1
           try clear hfz112_2
           try clear hfz112_3
           try clear hfz112_4
           try clear hfz115_0
           try clear hfz115_1
           try clear hfz115_2
           try clear hfz115_3
           try clear hfz115_4
           try clear hfz123_0
           try clear hfz123_1
           try clear hfz123_2
           try clear hfz123_3
           try clear hfz123_4
           obtain ⟨x10_5, x100_5, rfl, HA, HK5, HO_10, BK298, HB⟩ := hrel;cases gk with
           | zero => exact absurd HA.out (by simp [head_Write.l1])
           | succ k5 =>
            have H := HA.out;clear HA;simp only [head_Write.l1] at H;by_cases c124 : x100_5 < (l0_4.length : Int);rotate_left
            ·rw [zn c124] at H;have c124b0 := zf c124;clear c124;by_cases c135 : x10_5.length + 2 < 140737488355328;rotate_left
             ·rw [zn c135] at H;exact absurd H (by simp)
             rw [zp c135] at H;have LMc135 := zN c135;clear c135;obtain ⟨y329, hy329⟩ : ∃ y_ : List Int, y_ = (x10_5 ++ bytesOf (⟨#[13, 10]⟩ : ByteArray)) := ⟨_, rfl⟩;replace H : (if (l0_4.length : Int) > 32 then (some (([] : List Int), 6)) else (if (y329.length : Int) > 2048 then (some (([] : List Int), 6)) else (some (y329, 0)))) = some (r1, r2) := by first | (rw [hy329]; with_reducible exact H) | (have H2_ := (Option.bind_some _ _).symm.trans H; rw [hy329]; with_reducible exact H2_) | (have H2_ := (Option.bind_some _ _).symm.trans H; with_reducible exact H2_) | with_reducible exact H | (rw [hy329]; exact H) | exact H
             have Ny329 := zN hy329;clear hy329;by_cases c136 : (l0_4.length : Int) > 32
             ·rw [zp c136] at H;have c136b0 : decide (32 < (l0_4.length : Int)) = true := zt c136;have c136b1 : decide (32 < l0_4.length) = true := zt zO;clear c136;simp only [Option.some.injEq, Prod.mk.injEq] at H;obtain ⟨rfl, rfl⟩ := H;go_wp2_with (first | (at_builtin; refine Yd.append_str (w0 := w) w.heap.size rfl (.tmp 114) _ 46 9 5 rfl Tryz.underlying46 Tryz.underlying9 info5 u10 x10_5 (⟨#[13, 10]⟩ : ByteArray) rfl rfl ?aO ?aB ?aS ?aL ?_; (case aB => exact (zB1 HB GE298)); (case aO => exact (Yd.own_of_R (by (with_reducible repeat (first | apply Yd.R_alloc | apply Yd.R_drewN | apply Yd.R_drew)); exact HO_10.out))); (case aS => exact (below_size (zB1 HB GE298))); (case aL => have := LMc135.out; have hz_ : (⟨#[13, 10]⟩ : ByteArray).size = 2 := rfl; omega); intro v330 w137 ho0 hb hg; have ho := Yd.R_of_own (ok := fun _ => True) ho0 (fun _ _ => trivial); clear ho0; have hat := True.intro; rw [← Ny329.out] at ho; change Yd.R (Kd.int .u8) 5 w137 w.heap.size (fun _ => True) v330 y329 at ho; replace BK298 := zN (blk_grown (g := gb298) (o := .cells #[.string a0_0, .string a0_1, .string a0_2, .string a0_3, .slice A0_4 l0_4.length c0_4] 25 (0, 0)) (zK BK298) hg (Yd.R_ne HO_10.out BK298.out (by decide))); replace HB := zN hb; have HO331 := zN ho; clear HO_10; clear ho hb hg hat; obtain ⟨hcz138_0, hcz138_1, hcz138_2, hcz138_3, hcz138_4, hfz138_0, hfz138_1, hfz138_2, hfz138_3, hfz138_4⟩ := zC5 BK298));go_ret2;exact ⟨_, zE, by first | exact Yd.R_nil _ _ _ _ _ | exact Kd.N_nil _ _ _ _ _ | exact Kd.V_nil _ _ _ _ _ | exact Kd.Q_nil _ _ _ _ _ | exact Kd.S_nil _ _ _ _ _, zB1 HB GE298⟩
             rw [zn c136] at H;have c136b0 : decide (32 < (l0_4.length : Int)) = false := zf c136;have c136b1 : decide (32 < l0_4.length) = false := zf zO;clear c136;by_cases c139 : (y329.length : Int) > 2048
             ·rw [zp c139] at H;have c139b0 : decide (2048 < (y329.length : Int)) = true := zt c139;have c139b1 : decide (2048 < y329.length) = true := zt zO;clear c139;simp only [Option.some.injEq, Prod.mk.injEq] at H;obtain ⟨rfl, rfl⟩ := H;go_wp2_with (first | (at_builtin; refine Yd.append_str (w0 := w) w.heap.size rfl (.tmp 114) _ 46 9 5 rfl Tryz.underlying46 Tryz.underlying9 info5 u10 x10_5 (⟨#[13, 10]⟩ : ByteArray) rfl rfl ?aO ?aB ?aS ?aL ?_; (case aB => exact (zB1 HB GE298)); (case aO => exact (Yd.own_of_R (by (with_reducible repeat (first | apply Yd.R_alloc | apply Yd.R_drewN | apply Yd.R_drew)); exact HO_10.out))); (case aS => exact (below_size (zB1 HB GE298))); (case aL => have := LMc135.out; have hz_ : (⟨#[13, 10]⟩ : ByteArray).size = 2 := rfl; omega); intro v330 w140 ho0 hb hg; have ho := Yd.R_of_own (ok := fun _ => True) ho0 (fun _ _ => trivial); clear ho0; have hat := True.intro; rw [← Ny329.out] at ho; change Yd.R (Kd.int .u8) 5 w140 w.heap.size (fun _ => True) v330 y329 at ho; replace BK298 := zN (blk_grown (g := gb298) (o := .cells #[.string a0_0, .string a0_1, .string a0_2, .string a0_3, .slice A0_4 l0_4.length c0_4] 25 (0, 0)) (zK BK298) hg (Yd.R_ne HO_10.out BK298.out (by decide))); replace HB := zN hb; have HO331 := zN ho; clear HO_10; clear ho hb hg hat; obtain ⟨hcz141_0, hcz141_1, hcz141_2, hcz141_3, hcz141_4, hfz141_0, hfz141_1, hfz141_2, hfz141_3, hfz141_4⟩ := zC5 BK298; obtain ⟨Ao142, co142, eo142⟩ := Yd.R_slice HO331.out; subst eo142));go_ret2;exact ⟨_, zE, by first | exact Yd.R_nil _ _ _ _ _ | exact Kd.N_nil _ _ _ _ _ | exact Kd.V_nil _ _ _ _ _ | exact Kd.Q_nil _ _ _ _ _ | exact Kd.S_nil _ _ _ _ _, zB1 HB GE298⟩
             rw [zn c139] at H;have c139b0 : decide (2048 < (y329.length : Int)) = false := zf c139;have c139b1 : decide (2048 < y329.length) = false := zf zO;clear c139;simp only [Option.some.injEq, Prod.mk.injEq] at H;obtain ⟨rfl, rfl⟩ := H;go_wp2_with (first | (at_builtin; refine Yd.append_str (w0 := w) w.heap.size rfl (.tmp 114) _ 46 9 5 rfl Tryz.underlying46 Tryz.underlying9 info5 u10 x10_5 (⟨#[13, 10]⟩ : ByteArray) rfl rfl ?aO ?aB ?aS ?aL ?_; (case aB => exact (zB1 HB GE298)); (case aO => exact (Yd.own_of_R (by (with_reducible repeat (first | apply Yd.R_alloc | apply Yd.R_drewN | apply Yd.R_drew)); exact HO_10.out))); (case aS => exact (below_size (zB1 HB GE298))); (case aL => have := LMc135.out; have hz_ : (⟨#[13, 10]⟩ : ByteArray).size = 2 := rfl; omega); intro v330 w143 ho0 hb hg; have ho := Yd.R_of_own (ok := fun _ => True) ho0 (fun _ _ => trivial); clear ho0; have hat := True.intro; rw [← Ny329.out] at ho; change Yd.R (Kd.int .u8) 5 w143 w.heap.size (fun _ => True) v330 y329 at ho; replace BK298 := zN (blk_grown (g := gb298) (o := .cells #[.string a0_0, .string a0_1, .string a0_2, .string a0_3, .slice A0_4 l0_4.length c0_4] 25 (0, 0)) (zK BK298) hg (Yd.R_ne HO_10.out BK298.out (by decide))); replace HB := zN hb; have HO331 := zN ho; clear HO_10; clear ho hb hg hat; obtain ⟨hcz144_0, hcz144_1, hcz144_2, hcz144_3, hcz144_4, hfz144_0, hfz144_1, hfz144_2, hfz144_3, hfz144_4⟩ := zC5 BK298; obtain ⟨Ao145, co145, eo145⟩ := Yd.R_slice HO331.out; subst eo145));go_ret2;exact ⟨_, zE, by (with_reducible repeat (first | apply Yd.R_alloc | apply Yd.R_drewN | apply Yd.R_drew)); exact HO331.out, zB1 HB GE298⟩
            rw [zp c124] at H;have c124b0 := zt c124;clear c124;by_cases c125 : 0 ≤ x100_5;rotate_left
            ·rw [zn c125] at H;exact absurd H (by simp)
            rw [zp c125] at H;have c125b0 := zt c125;clear c125;by_cases c126 : x100_5 < (l0_4.length : Int);rotate_left
            ·rw [zn c126] at H;exact absurd H (by simp)
            rw [zp c126] at H;have c126b0 := zt c126;clear c126;by_cases c127 : ((rd_T88 l0_4 x100_5).f0).size + 2 ≤ 9223372036854775807;rotate_left
            ·rw [zn c127] at H;exact absurd H (by simp)
            rw [zp c127] at H;have c127b0 := zu c127;have c127b1 := zt c127
            try have c127b2 : (9223372036854775807 < ((rd_T88 l0_4 x100_5).f0).size + 2) = False := eq_false (Nat.not_lt.2 c127)
            by_cases c128 : (((rd_T88 l0_4 x100_5).f0) ++ (⟨#[58, 32]⟩ : ByteArray)).size + ((rd_T88 l0_4 x100_5).f1).size ≤ 9223372036854775807;rotate_left
            ·rw [zn c128] at H;exact absurd H (by simp)
            rw [zp c128] at H;have c128b0 := zu c128;have c128b1 := zt c128
            try have c128b2 : (9223372036854775807 < (((rd_T88 l0_4 x100_5).f0) ++ (⟨#[58, 32]⟩ : ByteArray)).size + ((rd_T88 l0_4 x100_5).f1).size) = False := eq_false (Nat.not_lt.2 c128)
            by_cases c129 : ((((rd_T88 l0_4 x100_5).f0) ++ (⟨#[58, 32]⟩ : ByteArray)) ++ ((rd_T88 l0_4 x100_5).f1)).size + 2 ≤ 9223372036854775807;rotate_left
            ·rw [zn c129] at H;exact absurd H (by simp)
            rw [zp c129] at H;have c129b0 := zu c129;have c129b1 := zt c129
            try have c129b2 : (9223372036854775807 < ((((rd_T88 l0_4 x100_5).f0) ++ (⟨#[58, 32]⟩ : ByteArray)) ++ ((rd_T88 l0_4 x100_5).f1)).size + 2) = False := eq_false (Nat.not_lt.2 c129)
            have c129s : (9223372036854775807 < ((rd_T88 l0_4 x100_5).f0).size + 2 + ((rd_T88 l0_4 x100_5).f1).size + 2) = False := eq_false (by have h_ := c129; rw [ByteArray.size_append, ByteArray.size_append, show (⟨#[58, 32]⟩ : ByteArray).size = 2 from rfl] at h_; omega);by_cases c130 : x10_5.length + (((((rd_T88 l0_4 x100_5).f0) ++ (⟨#[58, 32]⟩ : ByteArray)) ++ ((rd_T88 l0_4 x100_5).f1)) ++ (⟨#[13, 10]⟩ : ByteArray)).size < 140737488355328;rotate_left
            ·rw [zn c130] at H;exact absurd H (by simp)
            rw [zp c130] at H;have LMc130 := zN c130;clear c130;obtain ⟨y326, hy326⟩ : ∃ y_ : List Int, y_ = (x10_5 ++ bytesOf (((((rd_T88 l0_4 x100_5).f0) ++ (⟨#[58, 32]⟩ : ByteArray)) ++ ((rd_T88 l0_4 x100_5).f1)) ++ (⟨#[13, 10]⟩ : ByteArray))) := ⟨_, rfl⟩;replace H : (head_Write.l1 k5 y326 l0_4 (l0_4.length : Int) (wrap64 (x100_5 + 1)) a0_0 a0_1 a0_2 a0_3 l0_4) = some (r1, r2) := by first | (rw [hy326]; with_reducible exact H) | (have H2_ := (Option.bind_some _ _).symm.trans H; rw [hy326]; with_reducible exact H2_) | (have H2_ := (Option.bind_some _ _).symm.trans H; with_reducible exact H2_) | with_reducible exact H | (rw [hy326]; exact H) | exact H
            have Ny326 := zN hy326;clear hy326;have H' := zN H;clear H;have p324 : 0 ≤ (x100_5 : Int) := zd zS;have q324 : x100_5 < (l0_4.length : Int) := zd zS;obtain ⟨ad324, e324, hx324_0, hx324_1⟩ := at_T88 HR0_4.out x100_5 p324 q324;cases e324;replace hx324_0 := (HB.out.cell (zw w _ hx324_0)).trans hx324_0;replace hx324_1 := (HB.out.cell (zw w _ hx324_1)).trans hx324_1;replace p324 := zu p324;replace q324 := zu q324;go_wp2_with (first | ((with_reducible refine gate_dst (N := 12) rfl ?_); (try (refine gate_guard (by rfl) ?_; dsimp only)); refine zX #[.string (⟨#[]⟩ : ByteArray), .string (⟨#[]⟩ : ByteArray)] 88 rfl ?_; intro gb325 hg w131 hbox hb; replace HO_10 := zN (Yd.R_below (by (with_reducible repeat (first | apply Yd.R_alloc | apply Yd.R_drewN | apply Yd.R_drew)); exact HO_10.out) hb); have BK325 := zN hbox; have GW325 := zY w (zB1 HB GE298) hg; have GE325 := zY w (zB1 HB GE298) hg; replace HB := zk1 HB GE298 hb; have NB298_325 := zl BK298 hg; have NB325_298 := zl' BK298 hg; replace BK298 := zj BK298 hb; clear hb hbox hg; have hnb132 := NB325_298.out; have hnc132 := NB298_325.out; obtain ⟨hcz133_0, hcz133_1, hfz133_0, hfz133_1⟩ := zC2 BK325) | (at_builtin; refine Yd.append_str (w0 := w) w.heap.size rfl (.tmp 104) _ 46 9 5 rfl Tryz.underlying46 Tryz.underlying9 info5 u10 x10_5 (((((rd_T88 l0_4 x100_5).f0) ++ (⟨#[58, 32]⟩ : ByteArray)) ++ ((rd_T88 l0_4 x100_5).f1)) ++ (⟨#[13, 10]⟩ : ByteArray)) rfl rfl ?aO ?aB ?aS ?aL ?_; (case aB => exact (zB2 HB GE298 GE325)); (case aO => exact (Yd.own_of_R (by (with_reducible repeat (first | apply Yd.R_alloc | apply Yd.R_drewN | apply Yd.R_drew)); exact Yd.R_mono (Yd.R_far (p := ⟨gb325, 1, none⟩) (Yd.R_far (p := ⟨gb325, 0, none⟩) (Yd.R_types HO_10.out BK325.out (by decide)) (fun _ hk => hk.2) (.string ((rd_T88 l0_4 x100_5).f0))) (fun _ hk => hk.2) (.string ((rd_T88 l0_4 x100_5).f1))) (fun _ hk => trivial)))); (case aS => exact (below_size (zB2 HB GE298 GE325))); (case aL => have := LMc130.out; omega); intro v327 w134 ho0 hb hg; have ho := Yd.R_of_own (ok := fun _ => True) ho0 (fun _ _ => trivial); clear ho0; have hat := True.intro; rw [← Ny326.out] at ho; change Yd.R (Kd.int .u8) 5 w134 w.heap.size (fun _ => True) v327 y326 at ho; replace BK298 := zN (blk_grown (g := gb298) (o := .cells #[.string a0_0, .string a0_1, .string a0_2, .string a0_3, .slice (some ad324) l0_4.length c0_4] 25 (0, 0)) (zF1 BK298 NB298_325) hg (Yd.R_ne HO_10.out BK298.out (by decide))); replace BK325 := zN (blk_grown (g := gb325) (o := .cells #[.string ((rd_T88 l0_4 x100_5).f0), .string ((rd_T88 l0_4 x100_5).f1)] 88 (0, 0)) (zF BK325) hg (Yd.R_ne HO_10.out BK325.out (by decide))); replace HB := zN hb; have HO328 := zN ho; clear HO_10; clear ho hb hg hat))
            go_roundg k5
            case measure => have := HJ1.out; have := HK2.out; have := HJ104.out; have := HJ110.out; have := HK5.out; omega
            case rel => exact ⟨(y326), (wrap64 (x100_5 + 1)), zI, H', ⟨by have := HJ1.out; have := HK2.out; have := HJ104.out; have := HJ110.out; have := HK5.out; omega⟩, ⟨by (with_reducible repeat (first | apply Yd.R_alloc | apply Yd.R_drewN | apply Yd.R_drew)); exact HO328.out⟩, ⟨zK BK298⟩, ⟨zB2 HB GE298 GE325⟩⟩
     rw [zp c13] at H;have c13b0 := zt c13;clear c13;by_cases c14 : 0 ≤ x29_2;rotate_left
     ·rw [zn c14] at H;exact absurd H (by simp)
     rw [zp c14] at H;have c14b0 := zt c14;clear c14;by_cases c15 : x29_2 < (l0_4.length : Int);rotate_left
     ·rw [zn c15] at H;exact absurd H (by simp)
     rw [zp c15] at H;have c15b0 := zt c15;clear c15;by_cases c16 : x4_2 = true;rotate_left
     ·replace c16 := zq.mpr c16;subst c16;have H1 := H; rw [zn (show ¬ (false = true) by decide)] at H1;clear H;have H := H1;clear H1;by_cases c90 : ((rd_T88 l0_4 x29_2).f0).toList = ([104, 111, 115, 116] : List UInt8)
      ·rw [zp c90] at H;have c90b0 := beq_iff_eq.mpr c90;have c90b1 := zc.mpr c90;clear c90;obtain ⟨⟨t313, t314⟩, A91, H⟩ := zA H;(try dsimp only at H);have H' := zN H;clear H;have p302 : 0 ≤ (x29_2 : Int) := zd zS;have q302 : x29_2 < (l0_4.length : Int) := zd zS;obtain ⟨ad302, e302, hx302_0, hx302_1⟩ := at_T88 HR0_4.out x29_2 p302 q302;cases e302;replace hx302_0 := (HB.out.cell (zw w _ hx302_0)).trans hx302_0;replace hx302_1 := (HB.out.cell (zw w _ hx302_1)).trans hx302_1;replace p302 := zu p302;replace q302 := zu q302
       try go_wp2_with (first | ((with_reducible refine gate_dst (N := 7) rfl ?_); (try (refine gate_guard (by rfl) ?_; dsimp only)); refine zX #[.string (⟨#[]⟩ : ByteArray), .string (⟨#[]⟩ : ByteArray)] 88 rfl ?_; intro gb303 hg w92 hbox hb; have BK303 := zN hbox; have GW303 := zY w (zB1 HB GE298) hg; have GE303 := zY w (zB1 HB GE298) hg; replace HB := zk1 HB GE298 hb; have NB298_303 := zl BK298 hg; have NB303_298 := zl' BK298 hg; replace BK298 := zj BK298 hb; clear hb hbox hg; have hnb93 := NB303_298.out; have hnc93 := NB298_303.out; obtain ⟨hcz94_0, hcz94_1, hfz94_0, hfz94_1⟩ := zC2 BK303))
       have n0_ : Aside0 (((w92.setCell ⟨gb303, 0, none⟩ (.string ((rd_T88 l0_4 x29_2).f0))).setCell ⟨gb303, 1, none⟩ (.string ((rd_T88 l0_4 x29_2).f1))).heap[gb298]? = some (.cells #[.string a0_0, .string a0_1, .string a0_2, .string a0_3, .slice (some ad302) l0_4.length c0_4] 25 (0, 0))) := ⟨zF1 BK298 NB298_303⟩;have n1_ : Aside0 (((w92.setCell ⟨gb303, 0, none⟩ (.string ((rd_T88 l0_4 x29_2).f0))).setCell ⟨gb303, 1, none⟩ (.string ((rd_T88 l0_4 x29_2).f1))).heap[gb303]? = some (.cells #[.string ((rd_T88 l0_4 x29_2).f0), .string ((rd_T88 l0_4 x29_2).f1)] 88 (0, 0))) := ⟨zF BK303⟩;have n2_ : Aside0 (Below w.heap.size w ((w92.setCell ⟨gb303, 0, none⟩ (.string ((rd_T88 l0_4 x29_2).f0))).setCell ⟨gb303, 1, none⟩ (.string ((rd_T88 l0_4 x29_2).f1)))) := ⟨zB2 HB GE298 GE303⟩;(try clear BK298);(try clear BK303);(try clear HB);generalize ((w92.setCell ⟨gb303, 0, none⟩ (.string ((rd_T88 l0_4 x29_2).f0))).setCell ⟨gb303, 1, none⟩ (.string ((rd_T88 l0_4 x29_2).f1))) = w95 at n0_ n1_ n2_ ⊢;have BK298 := n0_;have BK303 := n1_;have HB := n2_;clear n0_ n1_ n2_;replace BK298 := zN (blk_drew BK298.out);replace BK303 := zN (blk_drew BK303.out);replace HB := zN (below_drew1 HB.out);refine start_ (n := 20) (S := fun w' => True) (ds := []) head_Write.a0 zQ rfl rfl trivial (fun hHeld => ?_); refine with_tabW head_Write.tab6 head_Write.bits6 (fun HT_ HW_ => ?_);generalize w95.drew = w96 at BK298 BK303 HB hHeld ⊢;refine pure_ (i := 0) (N := some 33) (v := ?_) (a' := ?_) head_Write.a1 rfl rfl (any_of HT_.out zQ) (fun _ _ _ h => h) (Or.inl ⟨by rfl, ?_⟩) ?_ ?_;rotate_left
       ·intro w';go_simp
        with_reducible rfl
       rotate_left
       ·simp only [zP];rfl
       refine pure_ (i := 1) (N := some 34) (v := ?_) (a' := ?_) head_Write.a2 rfl rfl (any_of HT_.out zQ) (fun _ _ _ h => h) (Or.inl ⟨by rfl, ?_⟩) ?_ ?_;rotate_left
       ·intro w';go_simp
        with_reducible rfl
       rotate_left
       ·simp only [zP];rfl
       refine pure_ (i := 2) (N := some 35) (v := undef) (a' := ?_) head_Write.a3 rfl rfl (any_of HT_.out zQ) (fun _ _ _ h => h) (Or.inr ⟨by rfl, rfl⟩) ?_ ?_;rotate_left
       ·simp only [zP];rfl
       refine pure_ (i := 3) (N := some 36) (v := undef) (a' := ?_) head_Write.a4 rfl rfl (any_of HT_.out zQ) (fun _ _ _ h => h) (Or.inr ⟨by rfl, rfl⟩) ?_ ?_;rotate_left
       ·simp only [zP];rfl
       refine pure_ (i := 4) (N := some 37) (v := undef) (a' := ?_) head_Write.a5 rfl rfl (any_of HT_.out zQ) (fun _ _ _ h => h) (Or.inr ⟨by rfl, rfl⟩) ?_ ?_;rotate_left
       ·simp only [zP];rfl
       refine pure_ (i := 5) (N := some 38) (v := ?_) (a' := ?_) head_Write.a6 rfl rfl (any_of HT_.out zQ) (fun _ _ _ h => h) (Or.inl ⟨by rfl, ?_⟩) ?_ ?_;rotate_left
       ·intro w';go_simp
        with_reducible rfl
       rotate_left
       ·simp only [zP];rfl
       refine pure_ (i := 6) (N := some 39) (v := ?_) (a' := ?_) head_Write.a7 rfl rfl (any_of HT_.out zQ) (fun _ _ _ h => h) (Or.inl ⟨by rfl, ?_⟩) ?_ ?_;rotate_left
       ·intro w';go_simp
        with_reducible rfl
       rotate_left
       ·simp only [zP];rfl
       refine pure_ (i := 7) (N := some 40) (v := undef) (a' := ?_) head_Write.a8 rfl rfl (any_of HT_.out zQ) (fun _ _ _ h => h) (Or.inr ⟨by rfl, rfl⟩) ?_ ?_;rotate_left
       ·simp only [zP];rfl
       refine pure_ (i := 8) (N := some 41) (v := undef) (a' := ?_) head_Write.a21 rfl rfl (any_of HT_.out zQ) (fun _ _ _ h => h) (Or.inr ⟨by rfl, rfl⟩) ?_ ?_;rotate_left
       ·simp only [zP];rfl
       refine pure_ (i := 9) (N := some 42) (v := undef) (a' := ?_) head_Write.a22 rfl rfl (any_of HT_.out zQ) (fun _ _ _ h => h) (Or.inr ⟨by rfl, rfl⟩) ?_ ?_;rotate_left
       ·simp only [zP];rfl
       refine pure_ (i := 10) (N := some 43) (v := undef) (a' := ?_) head_Write.a23 rfl rfl (any_of HT_.out zQ) (fun _ _ _ h => h) (Or.inr ⟨by rfl, rfl⟩) ?_ ?_;rotate_left
       ·simp only [zP];rfl
       refine pure_ (i := 11) (N := some 44) (v := undef) (a' := ?_) head_Write.a12 rfl rfl (any_of HT_.out zQ) (fun _ _ _ h => h) (Or.inr ⟨by rfl, rfl⟩) ?_ ?_;rotate_left
       ·simp only [zP];rfl
       refine pure_ (i := 12) (N := some 45) (v := undef) (a' := ?_) head_Write.a13 rfl rfl (any_of HT_.out zQ) (fun _ _ _ h => h) (Or.inr ⟨by rfl, rfl⟩) ?_ ?_;rotate_left
       ·simp only [zP];rfl
       refine pure_ (i := 13) (N := some 46) (v := ?_) (a' := ?_) head_Write.a14 rfl rfl (any_of HT_.out zQ) (fun _ _ _ h => h) (Or.inl ⟨by rfl, ?_⟩) ?_ ?_;rotate_left
       ·intro w';go_simp
        with_reducible rfl
       rotate_left
       ·simp only [zP];rfl
       refine pure_ (i := 14) (N := some 47) (v := ?_) (a' := ?_) head_Write.a15 rfl rfl (any_of HT_.out zQ) (fun _ _ _ h => h) (Or.inl ⟨by rfl, ?_⟩) ?_ ?_;rotate_left
       ·intro w';go_simp
        with_reducible rfl
       rotate_left
       ·simp only [zP];rfl
       refine pure_ (i := 15) (N := some 48) (v := undef) (a' := ?_) head_Write.a16 rfl rfl (any_of HT_.out zQ) (fun _ _ _ h => h) (Or.inr ⟨by rfl, rfl⟩) ?_ ?_;rotate_left
       ·simp only [zP];rfl
       refine pure_ (i := 16) (N := some 49) (v := undef) (a' := ?_) head_Write.a17 rfl rfl (any_of HT_.out zQ) (fun _ _ _ h => h) (Or.inr ⟨by rfl, rfl⟩) ?_ ?_;rotate_left
       ·simp only [zP];rfl
       refine pure_ (i := 17) (N := some 50) (v := undef) (a' := ?_) head_Write.a18 rfl rfl (any_of HT_.out zQ) (fun _ _ _ h => h) (Or.inr ⟨by rfl, rfl⟩) ?_ ?_;rotate_left
       ·simp only [zP];rfl
       refine pure_ (i := 18) (N := some 51) (v := ?_) (a' := ?_) head_Write.a19 rfl rfl (any_of HT_.out zQ) (fun _ _ _ h => h) (Or.inl ⟨by rfl, ?_⟩) ?_ ?_;rotate_left
       ·intro w';go_simp
        with_reducible rfl
       rotate_left
       ·simp only [zP];rfl
       refine pure_ (i := 19) (N := some 4) (v := ?_) (a' := ?_) head_Write.a20 rfl rfl (any_of HT_.out zQ) (fun _ _ _ h => h) (Or.inl ⟨by rfl, ?_⟩) ?_ ?_;rotate_left
       ·intro w';go_simp
        with_reducible rfl
       rotate_left
       ·simp only [zP];rfl
       refine done_ (done_of HT_.out zQ) ?_;obtain ⟨hcz97_0, hcz97_1, hfz97_0, hfz97_1⟩ := zC2 BK303
       try go_wp2_with (first | ((with_reducible refine gate_callee (f := 27) rfl ?_); refine zg (some 60) Tryz.func27 #[.string ((rd_T88 l0_4 x29_2).f1)] ?_; (with_reducible refine (head_Host.calls k2 ((rd_T88 l0_4 x29_2).f1) t313 t314 _ ?side1 A91.out).mono ?_); (case side1 => exact ML.keep HML.out (zB2 HB GE298 GE303)); rintro e w98 ⟨rfl, hb⟩; refine ⟨_, rfl, ?_⟩; replace BK298 := zj BK298 hb; replace BK303 := zj BK303 hb; replace HB := zk2 HB GE298 GE303 hb; (try clear hb); (try clear hb2); (try clear hk); (try clear hi)))
       go_roundg k2
       case measure => have := HJ1.out; have := HK2.out; omega
       case rel => exact ⟨(false), (wrap64 (x5_2 + 1)), (wrap64 (x29_2 + 1)), zI, zI, zI, H', ⟨by have := HJ1.out; have := HK2.out; omega⟩, ⟨zK BK298⟩, ⟨zB2 HB GE298 GE303⟩⟩
      rw [zn c90] at H;have c90b0 := zb.mpr c90;have c90b1 := bne_iff_ne.mpr c90;have H' := zN H;clear H;have p302 : 0 ≤ (x29_2 : Int) := zd zS;have q302 : x29_2 < (l0_4.length : Int) := zd zS;obtain ⟨ad302, e302, hx302_0, hx302_1⟩ := at_T88 HR0_4.out x29_2 p302 q302;cases e302;replace hx302_0 := (HB.out.cell (zw w _ hx302_0)).trans hx302_0;replace hx302_1 := (HB.out.cell (zw w _ hx302_1)).trans hx302_1;replace p302 := zu p302;replace q302 := zu q302
      try go_wp2_with (first | ((with_reducible refine gate_dst (N := 7) rfl ?_); (try (refine gate_guard (by rfl) ?_; dsimp only)); refine zX #[.string (⟨#[]⟩ : ByteArray), .string (⟨#[]⟩ : ByteArray)] 88 rfl ?_; intro gb303 hg w99 hbox hb; have BK303 := zN hbox; have GW303 := zY w (zB1 HB GE298) hg; have GE303 := zY w (zB1 HB GE298) hg; replace HB := zk1 HB GE298 hb; have NB298_303 := zl BK298 hg; have NB303_298 := zl' BK298 hg; replace BK298 := zj BK298 hb; clear hb hbox hg; have hnb100 := NB303_298.out; have hnc100 := NB298_303.out; obtain ⟨hcz101_0, hcz101_1, hfz101_0, hfz101_1⟩ := zC2 BK303))
      have n0_ : Aside0 (((w99.setCell ⟨gb303, 0, none⟩ (.string ((rd_T88 l0_4 x29_2).f0))).setCell ⟨gb303, 1, none⟩ (.string ((rd_T88 l0_4 x29_2).f1))).heap[gb298]? = some (.cells #[.string a0_0, .string a0_1, .string a0_2, .string a0_3, .slice (some ad302) l0_4.length c0_4] 25 (0, 0))) := ⟨zF1 BK298 NB298_303⟩;have n1_ : Aside0 (((w99.setCell ⟨gb303, 0, none⟩ (.string ((rd_T88 l0_4 x29_2).f0))).setCell ⟨gb303, 1, none⟩ (.string ((rd_T88 l0_4 x29_2).f1))).heap[gb303]? = some (.cells #[.string ((rd_T88 l0_4 x29_2).f0), .string ((rd_T88 l0_4 x29_2).f1)] 88 (0, 0))) := ⟨zF BK303⟩;have n2_ : Aside0 (Below w.heap.size w ((w99.setCell ⟨gb303, 0, none⟩ (.string ((rd_T88 l0_4 x29_2).f0))).setCell ⟨gb303, 1, none⟩ (.string ((rd_T88 l0_4 x29_2).f1)))) := ⟨zB2 HB GE298 GE303⟩;(try clear BK298);(try clear BK303);(try clear HB);generalize ((w99.setCell ⟨gb303, 0, none⟩ (.string ((rd_T88 l0_4 x29_2).f0))).setCell ⟨gb303, 1, none⟩ (.string ((rd_T88 l0_4 x29_2).f1))) = w102 at n0_ n1_ n2_ ⊢;have BK298 := n0_;have BK303 := n1_;have HB := n2_;clear n0_ n1_ n2_;replace BK298 := zN (blk_drew BK298.out);replace BK303 := zN (blk_drew BK303.out);replace HB := zN (below_drew1 HB.out);refine start_ (n := 20) (S := fun w' => True) (ds := []) head_Write.a0 zQ rfl rfl trivial (fun hHeld => ?_); refine with_tabW head_Write.tab6 head_Write.bits6 (fun HT_ HW_ => ?_);generalize w102.drew = w103 at BK298 BK303 HB hHeld ⊢;refine pure_ (i := 0) (N := some 33) (v := ?_) (a' := ?_) head_Write.a1 rfl rfl (any_of HT_.out zQ) (fun _ _ _ h => h) (Or.inl ⟨by rfl, ?_⟩) ?_ ?_;rotate_left
      ·intro w';go_simp
       with_reducible rfl
      rotate_left
      ·simp only [zP];rfl
      refine pure_ (i := 1) (N := some 34) (v := ?_) (a' := ?_) head_Write.a2 rfl rfl (any_of HT_.out zQ) (fun _ _ _ h => h) (Or.inl ⟨by rfl, ?_⟩) ?_ ?_;rotate_left
      ·intro w';go_simp
       with_reducible rfl
      rotate_left
      ·simp only [zP];rfl
      refine pure_ (i := 2) (N := some 35) (v := undef) (a' := ?_) head_Write.a3 rfl rfl (any_of HT_.out zQ) (fun _ _ _ h => h) (Or.inr ⟨by rfl, rfl⟩) ?_ ?_;rotate_left
      ·simp only [zP];rfl
      refine pure_ (i := 3) (N := some 36) (v := undef) (a' := ?_) head_Write.a4 rfl rfl (any_of HT_.out zQ) (fun _ _ _ h => h) (Or.inr ⟨by rfl, rfl⟩) ?_ ?_;rotate_left
      ·simp only [zP];rfl
      refine pure_ (i := 4) (N := some 37) (v := undef) (a' := ?_) head_Write.a5 rfl rfl (any_of HT_.out zQ) (fun _ _ _ h => h) (Or.inr ⟨by rfl, rfl⟩) ?_ ?_;rotate_left
      ·simp only [zP];rfl
      refine pure_ (i := 5) (N := some 38) (v := ?_) (a' := ?_) head_Write.a6 rfl rfl (any_of HT_.out zQ) (fun _ _ _ h => h) (Or.inl ⟨by rfl, ?_⟩) ?_ ?_;rotate_left
      ·intro w';go_simp
       with_reducible rfl
      rotate_left
      ·simp only [zP];rfl
      refine pure_ (i := 6) (N := some 39) (v := ?_) (a' := ?_) head_Write.a7 rfl rfl (any_of HT_.out zQ) (fun _ _ _ h => h) (Or.inl ⟨by rfl, ?_⟩) ?_ ?_;rotate_left
      ·intro w';go_simp
       with_reducible rfl
      rotate_left
      ·simp only [zP];rfl
      refine pure_ (i := 7) (N := some 40) (v := undef) (a' := ?_) head_Write.a8 rfl rfl (any_of HT_.out zQ) (fun _ _ _ h => h) (Or.inr ⟨by rfl, rfl⟩) ?_ ?_;rotate_left
      ·simp only [zP];rfl
      refine pure_ (i := 8) (N := some 41) (v := undef) (a' := ?_) head_Write.a21 rfl rfl (any_of HT_.out zQ) (fun _ _ _ h => h) (Or.inr ⟨by rfl, rfl⟩) ?_ ?_;rotate_left
      ·simp only [zP];rfl
      refine pure_ (i := 9) (N := some 42) (v := undef) (a' := ?_) head_Write.a22 rfl rfl (any_of HT_.out zQ) (fun _ _ _ h => h) (Or.inr ⟨by rfl, rfl⟩) ?_ ?_;rotate_left
      ·simp only [zP];rfl
      refine pure_ (i := 10) (N := some 43) (v := undef) (a' := ?_) head_Write.a23 rfl rfl (any_of HT_.out zQ) (fun _ _ _ h => h) (Or.inr ⟨by rfl, rfl⟩) ?_ ?_;rotate_left
      ·simp only [zP];rfl
      refine pure_ (i := 11) (N := some 44) (v := undef) (a' := ?_) head_Write.a12 rfl rfl (any_of HT_.out zQ) (fun _ _ _ h => h) (Or.inr ⟨by rfl, rfl⟩) ?_ ?_;rotate_left
      ·simp only [zP];rfl
      refine pure_ (i := 12) (N := some 45) (v := undef) (a' := ?_) head_Write.a13 rfl rfl (any_of HT_.out zQ) (fun _ _ _ h => h) (Or.inr ⟨by rfl, rfl⟩) ?_ ?_;rotate_left
      ·simp only [zP];rfl
      refine pure_ (i := 13) (N := some 46) (v := ?_) (a' := ?_) head_Write.a14 rfl rfl (any_of HT_.out zQ) (fun _ _ _ h => h) (Or.inl ⟨by rfl, ?_⟩) ?_ ?_;rotate_left
      ·intro w';go_simp
       with_reducible rfl
      rotate_left
      ·simp only [zP];rfl
      refine pure_ (i := 14) (N := some 47) (v := ?_) (a' := ?_) head_Write.a15 rfl rfl (any_of HT_.out zQ) (fun _ _ _ h => h) (Or.inl ⟨by rfl, ?_⟩) ?_ ?_;rotate_left
      ·intro w';go_simp
       with_reducible rfl
      rotate_left
      ·simp only [zP];rfl
      refine pure_ (i := 15) (N := some 48) (v := undef) (a' := ?_) head_Write.a16 rfl rfl (any_of HT_.out zQ) (fun _ _ _ h => h) (Or.inr ⟨by rfl, rfl⟩) ?_ ?_;rotate_left
      ·simp only [zP];rfl
      refine pure_ (i := 16) (N := some 49) (v := undef) (a' := ?_) head_Write.a17 rfl rfl (any_of HT_.out zQ) (fun _ _ _ h => h) (Or.inr ⟨by rfl, rfl⟩) ?_ ?_;rotate_left
      ·simp only [zP];rfl
      refine pure_ (i := 17) (N := some 50) (v := undef) (a' := ?_) head_Write.a18 rfl rfl (any_of HT_.out zQ) (fun _ _ _ h => h) (Or.inr ⟨by rfl, rfl⟩) ?_ ?_;rotate_left
      ·simp only [zP];rfl
      refine pure_ (i := 18) (N := some 51) (v := ?_) (a' := ?_) head_Write.a19 rfl rfl (any_of HT_.out zQ) (fun _ _ _ h => h) (Or.inl ⟨by rfl, ?_⟩) ?_ ?_;rotate_left
      ·intro w';go_simp
       with_reducible rfl
      rotate_left
      ·simp only [zP];rfl
      refine pure_ (i := 19) (N := some 4) (v := ?_) (a' := ?_) head_Write.a20 rfl rfl (any_of HT_.out zQ) (fun _ _ _ h => h) (Or.inl ⟨by rfl, ?_⟩) ?_ ?_;rotate_left
      ·intro w';go_simp
       with_reducible rfl
      rotate_left
      ·simp only [zP];rfl
      refine done_ (done_of HT_.out zQ) ?_;obtain ⟨hcz104_0, hcz104_1, hfz104_0, hfz104_1⟩ := zC2 BK303
      try go_wp2
      go_roundg k2
      case measure => have := HJ1.out; have := HK2.out; omega
      case rel => exact ⟨(false), (x5_2), (wrap64 (x29_2 + 1)), zI, zI, zI, H', ⟨by have := HJ1.out; have := HK2.out; omega⟩, ⟨zK BK298⟩, ⟨zB2 HB GE298 GE303⟩⟩
     subst c16;have H1 := H; rw [zp rfl] at H1;clear H;have H := H1;clear H1;obtain ⟨t304, A17, H⟩ := zA H;(try dsimp only at H);by_cases c18 : t304 = true;rotate_left
     ·replace c18 := zq.mpr c18;subst c18;have H1 := H; rw [zn (show ¬ (false = true) by decide)] at H1;clear H;have H := H1;clear H1;by_cases c75 : ((rd_T88 l0_4 x29_2).f0).toList = ([104, 111, 115, 116] : List UInt8)
      ·rw [zp c75] at H;have c75b0 := beq_iff_eq.mpr c75;have c75b1 := zc.mpr c75;clear c75;obtain ⟨⟨t311, t312⟩, A76, H⟩ := zA H;(try dsimp only at H);have H' := zN H;clear H;have p302 : 0 ≤ (x29_2 : Int) := zd zS;have q302 : x29_2 < (l0_4.length : Int) := zd zS;obtain ⟨ad302, e302, hx302_0, hx302_1⟩ := at_T88 HR0_4.out x29_2 p302 q302;cases e302;replace hx302_0 := (HB.out.cell (zw w _ hx302_0)).trans hx302_0;replace hx302_1 := (HB.out.cell (zw w _ hx302_1)).trans hx302_1;replace p302 := zu p302;replace q302 := zu q302
       try go_wp2_with (first | ((with_reducible refine gate_dst (N := 7) rfl ?_); (try (refine gate_guard (by rfl) ?_; dsimp only)); refine zX #[.string (⟨#[]⟩ : ByteArray), .string (⟨#[]⟩ : ByteArray)] 88 rfl ?_; intro gb303 hg w77 hbox hb; have BK303 := zN hbox; have GW303 := zY w (zB1 HB GE298) hg; have GE303 := zY w (zB1 HB GE298) hg; replace HB := zk1 HB GE298 hb; have NB298_303 := zl BK298 hg; have NB303_298 := zl' BK298 hg; replace BK298 := zj BK298 hb; clear hb hbox hg; have hnb78 := NB303_298.out; have hnc78 := NB298_303.out; obtain ⟨hcz79_0, hcz79_1, hfz79_0, hfz79_1⟩ := zC2 BK303))
       have n0_ : Aside0 (((w77.setCell ⟨gb303, 0, none⟩ (.string ((rd_T88 l0_4 x29_2).f0))).setCell ⟨gb303, 1, none⟩ (.string ((rd_T88 l0_4 x29_2).f1))).heap[gb298]? = some (.cells #[.string a0_0, .string a0_1, .string a0_2, .string a0_3, .slice (some ad302) l0_4.length c0_4] 25 (0, 0))) := ⟨zF1 BK298 NB298_303⟩;have n1_ : Aside0 (((w77.setCell ⟨gb303, 0, none⟩ (.string ((rd_T88 l0_4 x29_2).f0))).setCell ⟨gb303, 1, none⟩ (.string ((rd_T88 l0_4 x29_2).f1))).heap[gb303]? = some (.cells #[.string ((rd_T88 l0_4 x29_2).f0), .string ((rd_T88 l0_4 x29_2).f1)] 88 (0, 0))) := ⟨zF BK303⟩;have n2_ : Aside0 (Below w.heap.size w ((w77.setCell ⟨gb303, 0, none⟩ (.string ((rd_T88 l0_4 x29_2).f0))).setCell ⟨gb303, 1, none⟩ (.string ((rd_T88 l0_4 x29_2).f1)))) := ⟨zB2 HB GE298 GE303⟩;(try clear BK298);(try clear BK303);(try clear HB);generalize ((w77.setCell ⟨gb303, 0, none⟩ (.string ((rd_T88 l0_4 x29_2).f0))).setCell ⟨gb303, 1, none⟩ (.string ((rd_T88 l0_4 x29_2).f1))) = w80 at n0_ n1_ n2_ ⊢;have BK298 := n0_;have BK303 := n1_;have HB := n2_;clear n0_ n1_ n2_;replace BK298 := zN (blk_drew BK298.out);replace BK303 := zN (blk_drew BK303.out);replace HB := zN (below_drew1 HB.out);refine start_ (n := 20) (S := fun w' => w'.cell? ⟨gb303, 0, none⟩ = some (.string ((rd_T88 l0_4 x29_2).f0)) ∧ w'.cell? ⟨gb303, 1, none⟩ = some (.string ((rd_T88 l0_4 x29_2).f1))) (ds := []) head_Write.a0 zQ rfl rfl ⟨(blk_cell BK303.out 0).trans rfl, (blk_cell BK303.out 1).trans rfl⟩ (fun hHeld => ?_); refine with_tabW head_Write.tab6 head_Write.bits6 (fun HT_ HW_ => ?_);generalize w80.drew = w81 at BK298 BK303 HB hHeld ⊢;refine pure_ (i := 0) (N := some 33) (v := ?_) (a' := ?_) head_Write.a1 rfl rfl (any_of HT_.out zQ) (fun _ _ _ h => h) (Or.inl ⟨by rfl, ?_⟩) ?_ ?_;rotate_left
       ·intro w';go_simp
        with_reducible rfl
       rotate_left
       ·simp only [zP];rfl
       refine pure_ (i := 1) (N := some 34) (v := ?_) (a' := ?_) head_Write.a2 rfl rfl (any_of HT_.out zQ) (fun _ _ _ h => h) (Or.inl ⟨by rfl, ?_⟩) ?_ ?_;rotate_left
       ·intro w';go_simp
        with_reducible rfl
       rotate_left
       ·simp only [zP];rfl
       refine pure_ (i := 2) (N := some 35) (v := ?_) (a' := ?_) head_Write.a3 rfl rfl (any_of HT_.out zQ) (fun _ _ _ h => h) (Or.inl ⟨by rfl, ?_⟩) ?_ ?_;rotate_left
       ·intro w';go_simp
        with_reducible rfl
       rotate_left
       ·simp only [zP];rfl
       refine take_ (i := 3) (N := some 36) (v := ?_) (a' := ?_) head_Write.a4 rfl rfl (take_ofW HT_.out HW_.out zQ) (fun _ _ _ h => h) (Or.inl ⟨by rfl, ?_⟩) hHeld ?_ ?_;rotate_left
       ·rintro w' ⟨s0, s1⟩;go_simp
        with_reducible rfl
       rotate_left
       ·simp only [zP];rfl
       refine one_ (i := 4) (N := some 37) head_Write.a5 rfl rfl (one_of HT_.out zQ) (by decide) (fun K hK => ?_);refine goes_ Tryz.func22 zQ rfl #[.string ((rd_T88 l0_4 x29_2).f0)] (by rfl) rfl rfl zM ?_
       with_reducible refine (head_token.calls k2 ((rd_T88 l0_4 x29_2).f0) false _ A17.out).mono ?_
       rintro e w' ⟨rfl, ⟨nd, rfl⟩⟩;refine ⟨_, rfl, ?_⟩;refine hK.out _ _ ⟨(blk_cell BK303.out 0).trans rfl, (blk_cell BK303.out 1).trans rfl⟩ (fun hHeld => ?_);clear hK K;refine norm_ (a' := ?_) ?_ ?_;rotate_left
       ·show Act.put _ (some 37) _ = _
        simp only [zP];rfl
       refine pure_ (i := 5) (N := some 38) (v := ?_) (a' := ?_) head_Write.a6 rfl rfl (any_of HT_.out zQ) (fun _ _ _ h => h) (Or.inl ⟨by rfl, ?_⟩) ?_ ?_;rotate_left
       ·intro w';go_simp
        with_reducible rfl
       rotate_left
       ·simp only [zP];rfl
       refine pure_ (i := 6) (N := some 39) (v := ?_) (a' := ?_) head_Write.a7 rfl rfl (any_of HT_.out zQ) (fun _ _ _ h => h) (Or.inl ⟨by rfl, ?_⟩) ?_ ?_;rotate_left
       ·intro w';go_simp
        with_reducible rfl
       rotate_left
       ·simp only [zP];rfl
       refine pure_ (i := 7) (N := some 40) (v := undef) (a' := ?_) head_Write.a8 rfl rfl (any_of HT_.out zQ) (fun _ _ _ h => h) (Or.inr ⟨by rfl, rfl⟩) ?_ ?_;rotate_left
       ·simp only [zP];rfl
       refine pure_ (i := 8) (N := some 41) (v := undef) (a' := ?_) head_Write.a21 rfl rfl (any_of HT_.out zQ) (fun _ _ _ h => h) (Or.inr ⟨by rfl, rfl⟩) ?_ ?_;rotate_left
       ·simp only [zP];rfl
       refine pure_ (i := 9) (N := some 42) (v := undef) (a' := ?_) head_Write.a22 rfl rfl (any_of HT_.out zQ) (fun _ _ _ h => h) (Or.inr ⟨by rfl, rfl⟩) ?_ ?_;rotate_left
       ·simp only [zP];rfl
       refine pure_ (i := 10) (N := some 43) (v := undef) (a' := ?_) head_Write.a23 rfl rfl (any_of HT_.out zQ) (fun _ _ _ h => h) (Or.inr ⟨by rfl, rfl⟩) ?_ ?_;rotate_left
       ·simp only [zP];rfl
       refine pure_ (i := 11) (N := some 44) (v := undef) (a' := ?_) head_Write.a12 rfl rfl (any_of HT_.out zQ) (fun _ _ _ h => h) (Or.inr ⟨by rfl, rfl⟩) ?_ ?_;rotate_left
       ·simp only [zP];rfl
       refine pure_ (i := 12) (N := some 45) (v := undef) (a' := ?_) head_Write.a13 rfl rfl (any_of HT_.out zQ) (fun _ _ _ h => h) (Or.inr ⟨by rfl, rfl⟩) ?_ ?_;rotate_left
       ·simp only [zP];rfl
       refine pure_ (i := 13) (N := some 46) (v := ?_) (a' := ?_) head_Write.a14 rfl rfl (any_of HT_.out zQ) (fun _ _ _ h => h) (Or.inl ⟨by rfl, ?_⟩) ?_ ?_;rotate_left
       ·intro w';go_simp
        with_reducible rfl
       rotate_left
       ·simp only [zP];rfl
       refine pure_ (i := 14) (N := some 47) (v := ?_) (a' := ?_) head_Write.a15 rfl rfl (any_of HT_.out zQ) (fun _ _ _ h => h) (Or.inl ⟨by rfl, ?_⟩) ?_ ?_;rotate_left
       ·intro w';go_simp
        with_reducible rfl
       rotate_left
       ·simp only [zP];rfl
       refine pure_ (i := 15) (N := some 48) (v := undef) (a' := ?_) head_Write.a16 rfl rfl (any_of HT_.out zQ) (fun _ _ _ h => h) (Or.inr ⟨by rfl, rfl⟩) ?_ ?_;rotate_left
       ·simp only [zP];rfl
       refine pure_ (i := 16) (N := some 49) (v := undef) (a' := ?_) head_Write.a17 rfl rfl (any_of HT_.out zQ) (fun _ _ _ h => h) (Or.inr ⟨by rfl, rfl⟩) ?_ ?_;rotate_left
       ·simp only [zP];rfl
       refine pure_ (i := 17) (N := some 50) (v := undef) (a' := ?_) head_Write.a18 rfl rfl (any_of HT_.out zQ) (fun _ _ _ h => h) (Or.inr ⟨by rfl, rfl⟩) ?_ ?_;rotate_left
       ·simp only [zP];rfl
       refine pure_ (i := 18) (N := some 51) (v := ?_) (a' := ?_) head_Write.a19 rfl rfl (any_of HT_.out zQ) (fun _ _ _ h => h) (Or.inl ⟨by rfl, ?_⟩) ?_ ?_;rotate_left
       ·intro w';go_simp
        with_reducible rfl
       rotate_left
       ·simp only [zP];rfl
       refine pure_ (i := 19) (N := some 4) (v := ?_) (a' := ?_) head_Write.a20 rfl rfl (any_of HT_.out zQ) (fun _ _ _ h => h) (Or.inl ⟨by rfl, ?_⟩) ?_ ?_;rotate_left
       ·intro w';go_simp
        with_reducible rfl
       rotate_left
       ·simp only [zP];rfl
       refine done_ (done_of HT_.out zQ) ?_;obtain ⟨hcz82_0, hcz82_1, hfz82_0, hfz82_1⟩ := zC2 BK303
       try go_wp2_with (first | ((with_reducible refine gate_callee (f := 27) rfl ?_); refine zg (some 60) Tryz.func27 #[.string ((rd_T88 l0_4 x29_2).f1)] ?_; (with_reducible refine (head_Host.calls k2 ((rd_T88 l0_4 x29_2).f1) t311 t312 _ ?side1 A76.out).mono ?_); (case side1 => exact ML.keep HML.out (zB2 HB GE298 GE303)); rintro e w83 ⟨rfl, hb⟩; refine ⟨_, rfl, ?_⟩; replace BK298 := zj BK298 hb; replace BK303 := zj BK303 hb; replace HB := zk2 HB GE298 GE303 hb; (try clear hb); (try clear hb2); (try clear hk); (try clear hi)))
       go_roundg k2
       case measure => have := HJ1.out; have := HK2.out; omega
       case rel => exact ⟨(false), (wrap64 (x5_2 + 1)), (wrap64 (x29_2 + 1)), zI, zI, zI, H', ⟨by have := HJ1.out; have := HK2.out; omega⟩, ⟨zK BK298⟩, ⟨zB2 HB GE298 GE303⟩⟩
      rw [zn c75] at H;have c75b0 := zb.mpr c75;have c75b1 := bne_iff_ne.mpr c75;have H' := zN H;clear H;have p302 : 0 ≤ (x29_2 : Int) := zd zS;have q302 : x29_2 < (l0_4.length : Int) := zd zS;obtain ⟨ad302, e302, hx302_0, hx302_1⟩ := at_T88 HR0_4.out x29_2 p302 q302;cases e302;replace hx302_0 := (HB.out.cell (zw w _ hx302_0)).trans hx302_0;replace hx302_1 := (HB.out.cell (zw w _ hx302_1)).trans hx302_1;replace p302 := zu p302;replace q302 := zu q302
      try go_wp2_with (first | ((with_reducible refine gate_dst (N := 7) rfl ?_); (try (refine gate_guard (by rfl) ?_; dsimp only)); refine zX #[.string (⟨#[]⟩ : ByteArray), .string (⟨#[]⟩ : ByteArray)] 88 rfl ?_; intro gb303 hg w84 hbox hb; have BK303 := zN hbox; have GW303 := zY w (zB1 HB GE298) hg; have GE303 := zY w (zB1 HB GE298) hg; replace HB := zk1 HB GE298 hb; have NB298_303 := zl BK298 hg; have NB303_298 := zl' BK298 hg; replace BK298 := zj BK298 hb; clear hb hbox hg; have hnb85 := NB303_298.out; have hnc85 := NB298_303.out; obtain ⟨hcz86_0, hcz86_1, hfz86_0, hfz86_1⟩ := zC2 BK303))
      have n0_ : Aside0 (((w84.setCell ⟨gb303, 0, none⟩ (.string ((rd_T88 l0_4 x29_2).f0))).setCell ⟨gb303, 1, none⟩ (.string ((rd_T88 l0_4 x29_2).f1))).heap[gb298]? = some (.cells #[.string a0_0, .string a0_1, .string a0_2, .string a0_3, .slice (some ad302) l0_4.length c0_4] 25 (0, 0))) := ⟨zF1 BK298 NB298_303⟩;have n1_ : Aside0 (((w84.setCell ⟨gb303, 0, none⟩ (.string ((rd_T88 l0_4 x29_2).f0))).setCell ⟨gb303, 1, none⟩ (.string ((rd_T88 l0_4 x29_2).f1))).heap[gb303]? = some (.cells #[.string ((rd_T88 l0_4 x29_2).f0), .string ((rd_T88 l0_4 x29_2).f1)] 88 (0, 0))) := ⟨zF BK303⟩;have n2_ : Aside0 (Below w.heap.size w ((w84.setCell ⟨gb303, 0, none⟩ (.string ((rd_T88 l0_4 x29_2).f0))).setCell ⟨gb303, 1, none⟩ (.string ((rd_T88 l0_4 x29_2).f1)))) := ⟨zB2 HB GE298 GE303⟩;(try clear BK298);(try clear BK303);(try clear HB);generalize ((w84.setCell ⟨gb303, 0, none⟩ (.string ((rd_T88 l0_4 x29_2).f0))).setCell ⟨gb303, 1, none⟩ (.string ((rd_T88 l0_4 x29_2).f1))) = w87 at n0_ n1_ n2_ ⊢;have BK298 := n0_;have BK303 := n1_;have HB := n2_;clear n0_ n1_ n2_;replace BK298 := zN (blk_drew BK298.out);replace BK303 := zN (blk_drew BK303.out);replace HB := zN (below_drew1 HB.out);refine start_ (n := 20) (S := fun w' => w'.cell? ⟨gb303, 0, none⟩ = some (.string ((rd_T88 l0_4 x29_2).f0)) ∧ w'.cell? ⟨gb303, 1, none⟩ = some (.string ((rd_T88 l0_4 x29_2).f1))) (ds := []) head_Write.a0 zQ rfl rfl ⟨(blk_cell BK303.out 0).trans rfl, (blk_cell BK303.out 1).trans rfl⟩ (fun hHeld => ?_); refine with_tabW head_Write.tab6 head_Write.bits6 (fun HT_ HW_ => ?_);generalize w87.drew = w88 at BK298 BK303 HB hHeld ⊢;refine pure_ (i := 0) (N := some 33) (v := ?_) (a' := ?_) head_Write.a1 rfl rfl (any_of HT_.out zQ) (fun _ _ _ h => h) (Or.inl ⟨by rfl, ?_⟩) ?_ ?_;rotate_left
      ·intro w';go_simp
       with_reducible rfl
      rotate_left
      ·simp only [zP];rfl
      refine pure_ (i := 1) (N := some 34) (v := ?_) (a' := ?_) head_Write.a2 rfl rfl (any_of HT_.out zQ) (fun _ _ _ h => h) (Or.inl ⟨by rfl, ?_⟩) ?_ ?_;rotate_left
      ·intro w';go_simp
       with_reducible rfl
      rotate_left
      ·simp only [zP];rfl
      refine pure_ (i := 2) (N := some 35) (v := ?_) (a' := ?_) head_Write.a3 rfl rfl (any_of HT_.out zQ) (fun _ _ _ h => h) (Or.inl ⟨by rfl, ?_⟩) ?_ ?_;rotate_left
      ·intro w';go_simp
       with_reducible rfl
      rotate_left
      ·simp only [zP];rfl
      refine take_ (i := 3) (N := some 36) (v := ?_) (a' := ?_) head_Write.a4 rfl rfl (take_ofW HT_.out HW_.out zQ) (fun _ _ _ h => h) (Or.inl ⟨by rfl, ?_⟩) hHeld ?_ ?_;rotate_left
      ·rintro w' ⟨s0, s1⟩;go_simp
       with_reducible rfl
      rotate_left
      ·simp only [zP];rfl
      refine one_ (i := 4) (N := some 37) head_Write.a5 rfl rfl (one_of HT_.out zQ) (by decide) (fun K hK => ?_);refine goes_ Tryz.func22 zQ rfl #[.string ((rd_T88 l0_4 x29_2).f0)] (by rfl) rfl rfl zM ?_
      with_reducible refine (head_token.calls k2 ((rd_T88 l0_4 x29_2).f0) false _ A17.out).mono ?_
      rintro e w' ⟨rfl, ⟨nd, rfl⟩⟩;refine ⟨_, rfl, ?_⟩;refine hK.out _ _ ⟨(blk_cell BK303.out 0).trans rfl, (blk_cell BK303.out 1).trans rfl⟩ (fun hHeld => ?_);clear hK K;refine norm_ (a' := ?_) ?_ ?_;rotate_left
      ·show Act.put _ (some 37) _ = _
       simp only [zP];rfl
      refine pure_ (i := 5) (N := some 38) (v := ?_) (a' := ?_) head_Write.a6 rfl rfl (any_of HT_.out zQ) (fun _ _ _ h => h) (Or.inl ⟨by rfl, ?_⟩) ?_ ?_;rotate_left
      ·intro w';go_simp
       with_reducible rfl
      rotate_left
      ·simp only [zP];rfl
      refine pure_ (i := 6) (N := some 39) (v := ?_) (a' := ?_) head_Write.a7 rfl rfl (any_of HT_.out zQ) (fun _ _ _ h => h) (Or.inl ⟨by rfl, ?_⟩) ?_ ?_;rotate_left
      ·intro w';go_simp
       with_reducible rfl
      rotate_left
      ·simp only [zP];rfl
      refine pure_ (i := 7) (N := some 40) (v := undef) (a' := ?_) head_Write.a8 rfl rfl (any_of HT_.out zQ) (fun _ _ _ h => h) (Or.inr ⟨by rfl, rfl⟩) ?_ ?_;rotate_left
      ·simp only [zP];rfl
      refine pure_ (i := 8) (N := some 41) (v := undef) (a' := ?_) head_Write.a21 rfl rfl (any_of HT_.out zQ) (fun _ _ _ h => h) (Or.inr ⟨by rfl, rfl⟩) ?_ ?_;rotate_left
      ·simp only [zP];rfl
      refine pure_ (i := 9) (N := some 42) (v := undef) (a' := ?_) head_Write.a22 rfl rfl (any_of HT_.out zQ) (fun _ _ _ h => h) (Or.inr ⟨by rfl, rfl⟩) ?_ ?_;rotate_left
      ·simp only [zP];rfl
      refine pure_ (i := 10) (N := some 43) (v := undef) (a' := ?_) head_Write.a23 rfl rfl (any_of HT_.out zQ) (fun _ _ _ h => h) (Or.inr ⟨by rfl, rfl⟩) ?_ ?_;rotate_left
      ·simp only [zP];rfl
      refine pure_ (i := 11) (N := some 44) (v := undef) (a' := ?_) head_Write.a12 rfl rfl (any_of HT_.out zQ) (fun _ _ _ h => h) (Or.inr ⟨by rfl, rfl⟩) ?_ ?_;rotate_left
      ·simp only [zP];rfl
      refine pure_ (i := 12) (N := some 45) (v := undef) (a' := ?_) head_Write.a13 rfl rfl (any_of HT_.out zQ) (fun _ _ _ h => h) (Or.inr ⟨by rfl, rfl⟩) ?_ ?_;rotate_left
      ·simp only [zP];rfl
      refine pure_ (i := 13) (N := some 46) (v := ?_) (a' := ?_) head_Write.a14 rfl rfl (any_of HT_.out zQ) (fun _ _ _ h => h) (Or.inl ⟨by rfl, ?_⟩) ?_ ?_;rotate_left
      ·intro w';go_simp
       with_reducible rfl
      rotate_left
      ·simp only [zP];rfl
      refine pure_ (i := 14) (N := some 47) (v := ?_) (a' := ?_) head_Write.a15 rfl rfl (any_of HT_.out zQ) (fun _ _ _ h => h) (Or.inl ⟨by rfl, ?_⟩) ?_ ?_;rotate_left
      ·intro w';go_simp
       with_reducible rfl
      rotate_left
      ·simp only [zP];rfl
      refine pure_ (i := 15) (N := some 48) (v := undef) (a' := ?_) head_Write.a16 rfl rfl (any_of HT_.out zQ) (fun _ _ _ h => h) (Or.inr ⟨by rfl, rfl⟩) ?_ ?_;rotate_left
      ·simp only [zP];rfl
      refine pure_ (i := 16) (N := some 49) (v := undef) (a' := ?_) head_Write.a17 rfl rfl (any_of HT_.out zQ) (fun _ _ _ h => h) (Or.inr ⟨by rfl, rfl⟩) ?_ ?_;rotate_left
      ·simp only [zP];rfl
      refine pure_ (i := 17) (N := some 50) (v := undef) (a' := ?_) head_Write.a18 rfl rfl (any_of HT_.out zQ) (fun _ _ _ h => h) (Or.inr ⟨by rfl, rfl⟩) ?_ ?_;rotate_left
      ·simp only [zP];rfl
      refine pure_ (i := 18) (N := some 51) (v := ?_) (a' := ?_) head_Write.a19 rfl rfl (any_of HT_.out zQ) (fun _ _ _ h => h) (Or.inl ⟨by rfl, ?_⟩) ?_ ?_;rotate_left
      ·intro w';go_simp
       with_reducible rfl
      rotate_left
      ·simp only [zP];rfl
      refine pure_ (i := 19) (N := some 4) (v := ?_) (a' := ?_) head_Write.a20 rfl rfl (any_of HT_.out zQ) (fun _ _ _ h => h) (Or.inl ⟨by rfl, ?_⟩) ?_ ?_;rotate_left
      ·intro w';go_simp
       with_reducible rfl
      rotate_left
      ·simp only [zP];rfl
      refine done_ (done_of HT_.out zQ) ?_;obtain ⟨hcz89_0, hcz89_1, hfz89_0, hfz89_1⟩ := zC2 BK303
      try go_wp2
      go_roundg k2
      case measure => have := HJ1.out; have := HK2.out; omega
      case rel => exact ⟨(false), (x5_2), (wrap64 (x29_2 + 1)), zI, zI, zI, H', ⟨by have := HJ1.out; have := HK2.out; omega⟩, ⟨zK BK298⟩, ⟨zB2 HB GE298 GE303⟩⟩
     subst c18;have H1 := H; rw [zp rfl] at H1;clear H;have H := H1;clear H1;obtain ⟨t305, A19, H⟩ := zA H;(try dsimp only at H);by_cases c20 : t305.toList = ((rd_T88 l0_4 x29_2).f0).toList;rotate_left
     ·rw [zn c20] at H;have c20b0 := zb.mpr c20;have c20b1 := bne_iff_ne.mpr c20;by_cases c58 : ((rd_T88 l0_4 x29_2).f0).toList = ([104, 111, 115, 116] : List UInt8)
      ·rw [zp c58] at H;have c58b0 := beq_iff_eq.mpr c58;have c58b1 := zc.mpr c58;clear c58;obtain ⟨⟨t309, t310⟩, A59, H⟩ := zA H;(try dsimp only at H);have H' := zN H;clear H;have p302 : 0 ≤ (x29_2 : Int) := zd zS;have q302 : x29_2 < (l0_4.length : Int) := zd zS;obtain ⟨ad302, e302, hx302_0, hx302_1⟩ := at_T88 HR0_4.out x29_2 p302 q302;cases e302;replace hx302_0 := (HB.out.cell (zw w _ hx302_0)).trans hx302_0;replace hx302_1 := (HB.out.cell (zw w _ hx302_1)).trans hx302_1;replace p302 := zu p302;replace q302 := zu q302
       try go_wp2_with (first | ((with_reducible refine gate_dst (N := 7) rfl ?_); (try (refine gate_guard (by rfl) ?_; dsimp only)); refine zX #[.string (⟨#[]⟩ : ByteArray), .string (⟨#[]⟩ : ByteArray)] 88 rfl ?_; intro gb303 hg w60 hbox hb; have BK303 := zN hbox; have GW303 := zY w (zB1 HB GE298) hg; have GE303 := zY w (zB1 HB GE298) hg; replace HB := zk1 HB GE298 hb; have NB298_303 := zl BK298 hg; have NB303_298 := zl' BK298 hg; replace BK298 := zj BK298 hb; clear hb hbox hg; have hnb61 := NB303_298.out; have hnc61 := NB298_303.out; obtain ⟨hcz62_0, hcz62_1, hfz62_0, hfz62_1⟩ := zC2 BK303))
       have n0_ : Aside0 (((w60.setCell ⟨gb303, 0, none⟩ (.string ((rd_T88 l0_4 x29_2).f0))).setCell ⟨gb303, 1, none⟩ (.string ((rd_T88 l0_4 x29_2).f1))).heap[gb298]? = some (.cells #[.string a0_0, .string a0_1, .string a0_2, .string a0_3, .slice (some ad302) l0_4.length c0_4] 25 (0, 0))) := ⟨zF1 BK298 NB298_303⟩;have n1_ : Aside0 (((w60.setCell ⟨gb303, 0, none⟩ (.string ((rd_T88 l0_4 x29_2).f0))).setCell ⟨gb303, 1, none⟩ (.string ((rd_T88 l0_4 x29_2).f1))).heap[gb303]? = some (.cells #[.string ((rd_T88 l0_4 x29_2).f0), .string ((rd_T88 l0_4 x29_2).f1)] 88 (0, 0))) := ⟨zF BK303⟩;have n2_ : Aside0 (Below w.heap.size w ((w60.setCell ⟨gb303, 0, none⟩ (.string ((rd_T88 l0_4 x29_2).f0))).setCell ⟨gb303, 1, none⟩ (.string ((rd_T88 l0_4 x29_2).f1)))) := ⟨zB2 HB GE298 GE303⟩;(try clear BK298);(try clear BK303);(try clear HB);generalize ((w60.setCell ⟨gb303, 0, none⟩ (.string ((rd_T88 l0_4 x29_2).f0))).setCell ⟨gb303, 1, none⟩ (.string ((rd_T88 l0_4 x29_2).f1))) = w63 at n0_ n1_ n2_ ⊢;have BK298 := n0_;have BK303 := n1_;have HB := n2_;clear n0_ n1_ n2_;replace BK298 := zN (blk_drew BK298.out);replace BK303 := zN (blk_drew BK303.out);replace HB := zN (below_drew1 HB.out);refine start_ (n := 20) (S := fun w' => w'.cell? ⟨gb303, 0, none⟩ = some (.string ((rd_T88 l0_4 x29_2).f0)) ∧ w'.cell? ⟨gb303, 1, none⟩ = some (.string ((rd_T88 l0_4 x29_2).f1))) (ds := []) head_Write.a0 zQ rfl rfl ⟨(blk_cell BK303.out 0).trans rfl, (blk_cell BK303.out 1).trans rfl⟩ (fun hHeld => ?_); refine with_tabW head_Write.tab6 head_Write.bits6 (fun HT_ HW_ => ?_);generalize w63.drew = w64 at BK298 BK303 HB hHeld ⊢;refine pure_ (i := 0) (N := some 33) (v := ?_) (a' := ?_) head_Write.a1 rfl rfl (any_of HT_.out zQ) (fun _ _ _ h => h) (Or.inl ⟨by rfl, ?_⟩) ?_ ?_;rotate_left
       ·intro w';go_simp
        with_reducible rfl
       rotate_left
       ·simp only [zP];rfl
       refine pure_ (i := 1) (N := some 34) (v := ?_) (a' := ?_) head_Write.a2 rfl rfl (any_of HT_.out zQ) (fun _ _ _ h => h) (Or.inl ⟨by rfl, ?_⟩) ?_ ?_;rotate_left
       ·intro w';go_simp
        with_reducible rfl
       rotate_left
       ·simp only [zP];rfl
       refine pure_ (i := 2) (N := some 35) (v := ?_) (a' := ?_) head_Write.a3 rfl rfl (any_of HT_.out zQ) (fun _ _ _ h => h) (Or.inl ⟨by rfl, ?_⟩) ?_ ?_;rotate_left
       ·intro w';go_simp
        with_reducible rfl
       rotate_left
       ·simp only [zP];rfl
       refine take_ (i := 3) (N := some 36) (v := ?_) (a' := ?_) head_Write.a4 rfl rfl (take_ofW HT_.out HW_.out zQ) (fun _ _ _ h => h) (Or.inl ⟨by rfl, ?_⟩) hHeld ?_ ?_;rotate_left
       ·rintro w' ⟨s0, s1⟩;go_simp
        with_reducible rfl
       rotate_left
       ·simp only [zP];rfl
       refine one_ (i := 4) (N := some 37) head_Write.a5 rfl rfl (one_of HT_.out zQ) (by decide) (fun K hK => ?_);refine goes_ Tryz.func22 zQ rfl #[.string ((rd_T88 l0_4 x29_2).f0)] (by rfl) rfl rfl zM ?_
       with_reducible refine (head_token.calls k2 ((rd_T88 l0_4 x29_2).f0) true _ A17.out).mono ?_
       rintro e w' ⟨rfl, ⟨nd, rfl⟩⟩;refine ⟨_, rfl, ?_⟩;refine hK.out _ _ ⟨(blk_cell BK303.out 0).trans rfl, (blk_cell BK303.out 1).trans rfl⟩ (fun hHeld => ?_);clear hK K;refine norm_ (a' := ?_) ?_ ?_;rotate_left
       ·show Act.put _ (some 37) _ = _
        simp only [zP];rfl
       refine pure_ (i := 5) (N := some 38) (v := ?_) (a' := ?_) head_Write.a6 rfl rfl (any_of HT_.out zQ) (fun _ _ _ h => h) (Or.inl ⟨by rfl, ?_⟩) ?_ ?_;rotate_left
       ·intro w';go_simp
        with_reducible rfl
       rotate_left
       ·simp only [zP];rfl
       refine pure_ (i := 6) (N := some 39) (v := ?_) (a' := ?_) head_Write.a7 rfl rfl (any_of HT_.out zQ) (fun _ _ _ h => h) (Or.inl ⟨by rfl, ?_⟩) ?_ ?_;rotate_left
       ·intro w';go_simp
        with_reducible rfl
       rotate_left
       ·simp only [zP];rfl
       refine pure_ (i := 7) (N := some 40) (v := ?_) (a' := ?_) head_Write.a8 rfl rfl (any_of HT_.out zQ) (fun _ _ _ h => h) (Or.inl ⟨by rfl, ?_⟩) ?_ ?_;rotate_left
       ·intro w';go_simp
        with_reducible rfl
       rotate_left
       ·simp only [zP];rfl
       refine pure_ (i := 10) (N := some 43) (v := ?_) (a' := ?_) head_Write.a9 rfl rfl (any_of HT_.out zQ) (fun _ _ _ h => h) (Or.inl ⟨by rfl, ?_⟩) ?_ ?_;rotate_left
       ·intro w';go_simp
        with_reducible rfl
       rotate_left
       ·simp only [zP];rfl
       refine take_ (i := 8) (N := some 41) (v := ?_) (a' := ?_) head_Write.a10 rfl rfl (take_ofW HT_.out HW_.out zQ) (fun _ _ _ h => h) (Or.inl ⟨by rfl, ?_⟩) hHeld ?_ ?_;rotate_left
       ·rintro w' ⟨s0, s1⟩;go_simp
        with_reducible rfl
       rotate_left
       ·simp only [zP];rfl
       refine take_ (i := 11) (N := some 44) (v := ?_) (a' := ?_) head_Write.a11 rfl rfl (take_ofW HT_.out HW_.out zQ) (fun _ _ _ h => h) (Or.inl ⟨by rfl, ?_⟩) hHeld ?_ ?_;rotate_left
       ·rintro w' ⟨s0, s1⟩;go_simp
        with_reducible rfl
       rotate_left
       ·simp only [zP];rfl
       refine one_ (i := 9) (N := some 42) head_Write.a12 rfl rfl (one_of HT_.out zQ) (by decide) (fun K hK => ?_);refine goes_ Tryz.func25 zQ rfl #[.string ((rd_T88 l0_4 x29_2).f0)] (by rfl) rfl rfl zM ?_
       with_reducible refine (head_lower.calls ((rd_T88 l0_4 x29_2).f0) t305 _ A19.out).mono ?_
       rintro e w65 ⟨rfl, hb⟩;refine ⟨_, rfl, ?_⟩;replace BK298 := zj BK298 hb;replace BK303 := zj BK303 hb;replace HB := zk2 HB GE298 GE303 hb;(try clear hb);(try clear hb2);(try clear hk);(try clear hi);refine hK.out _ _ ⟨(blk_cell BK303.out 0).trans rfl, (blk_cell BK303.out 1).trans rfl⟩ (fun hHeld => ?_);clear hK K;refine norm_ (a' := ?_) ?_ ?_;rotate_left
       ·show Act.put _ (some 42) _ = _
        simp only [zP];rfl
       refine pure_ (i := 12) (N := some 45) (v := ?_) (a' := ?_) head_Write.a13 rfl rfl (any_of HT_.out zQ) (fun _ _ _ h => h) (Or.inl ⟨by rfl, ?_⟩) ?_ ?_;rotate_left
       ·intro w';go_simp
        with_reducible rfl
       rotate_left
       ·simp only [zP];rfl
       refine pure_ (i := 13) (N := some 46) (v := ?_) (a' := ?_) head_Write.a14 rfl rfl (any_of HT_.out zQ) (fun _ _ _ h => h) (Or.inl ⟨by rfl, ?_⟩) ?_ ?_;rotate_left
       ·intro w';go_simp
        with_reducible rfl
       rotate_left
       ·simp only [zP];rfl
       refine pure_ (i := 14) (N := some 47) (v := ?_) (a' := ?_) head_Write.a15 rfl rfl (any_of HT_.out zQ) (fun _ _ _ h => h) (Or.inl ⟨by rfl, ?_⟩) ?_ ?_;rotate_left
       ·intro w';go_simp
        with_reducible rfl
       rotate_left
       ·simp only [zP];rfl
       refine pure_ (i := 15) (N := some 48) (v := undef) (a' := ?_) head_Write.a16 rfl rfl (any_of HT_.out zQ) (fun _ _ _ h => h) (Or.inr ⟨by rfl, rfl⟩) ?_ ?_;rotate_left
       ·simp only [zP];rfl
       refine pure_ (i := 16) (N := some 49) (v := undef) (a' := ?_) head_Write.a17 rfl rfl (any_of HT_.out zQ) (fun _ _ _ h => h) (Or.inr ⟨by rfl, rfl⟩) ?_ ?_;rotate_left
       ·simp only [zP];rfl
       refine pure_ (i := 17) (N := some 50) (v := undef) (a' := ?_) head_Write.a18 rfl rfl (any_of HT_.out zQ) (fun _ _ _ h => h) (Or.inr ⟨by rfl, rfl⟩) ?_ ?_;rotate_left
       ·simp only [zP];rfl
       refine pure_ (i := 18) (N := some 51) (v := ?_) (a' := ?_) head_Write.a19 rfl rfl (any_of HT_.out zQ) (fun _ _ _ h => h) (Or.inl ⟨by rfl, ?_⟩) ?_ ?_;rotate_left
       ·intro w';go_simp
        with_reducible rfl
       rotate_left
       ·simp only [zP];rfl
       refine pure_ (i := 19) (N := some 4) (v := ?_) (a' := ?_) head_Write.a20 rfl rfl (any_of HT_.out zQ) (fun _ _ _ h => h) (Or.inl ⟨by rfl, ?_⟩) ?_ ?_;rotate_left
       ·intro w';go_simp
        with_reducible rfl
       rotate_left
       ·simp only [zP];rfl
       refine done_ (done_of HT_.out zQ) ?_;obtain ⟨hcz66_0, hcz66_1, hfz66_0, hfz66_1⟩ := zC2 BK303
       try go_wp2_with (first | ((with_reducible refine gate_callee (f := 27) rfl ?_); refine zg (some 60) Tryz.func27 #[.string ((rd_T88 l0_4 x29_2).f1)] ?_; (with_reducible refine (head_Host.calls k2 ((rd_T88 l0_4 x29_2).f1) t309 t310 _ ?side1 A59.out).mono ?_); (case side1 => exact ML.keep HML.out (zB2 HB GE298 GE303)); rintro e w67 ⟨rfl, hb⟩; refine ⟨_, rfl, ?_⟩; replace BK298 := zj BK298 hb; replace BK303 := zj BK303 hb; replace HB := zk2 HB GE298 GE303 hb; (try clear hb); (try clear hb2); (try clear hk); (try clear hi)))
       go_roundg k2
       case measure => have := HJ1.out; have := HK2.out; omega
       case rel => exact ⟨(false), (wrap64 (x5_2 + 1)), (wrap64 (x29_2 + 1)), zI, zI, zI, H', ⟨by have := HJ1.out; have := HK2.out; omega⟩, ⟨zK BK298⟩, ⟨zB2 HB GE298 GE303⟩⟩
      rw [zn c58] at H;have c58b0 := zb.mpr c58;have c58b1 := bne_iff_ne.mpr c58;have H' := zN H;clear H;have p302 : 0 ≤ (x29_2 : Int) := zd zS;have q302 : x29_2 < (l0_4.length : Int) := zd zS;obtain ⟨ad302, e302, hx302_0, hx302_1⟩ := at_T88 HR0_4.out x29_2 p302 q302;cases e302;replace hx302_0 := (HB.out.cell (zw w _ hx302_0)).trans hx302_0;replace hx302_1 := (HB.out.cell (zw w _ hx302_1)).trans hx302_1;replace p302 := zu p302;replace q302 := zu q302
      try go_wp2_with (first | ((with_reducible refine gate_dst (N := 7) rfl ?_); (try (refine gate_guard (by rfl) ?_; dsimp only)); refine zX #[.string (⟨#[]⟩ : ByteArray), .string (⟨#[]⟩ : ByteArray)] 88 rfl ?_; intro gb303 hg w68 hbox hb; have BK303 := zN hbox; have GW303 := zY w (zB1 HB GE298) hg; have GE303 := zY w (zB1 HB GE298) hg; replace HB := zk1 HB GE298 hb; have NB298_303 := zl BK298 hg; have NB303_298 := zl' BK298 hg; replace BK298 := zj BK298 hb; clear hb hbox hg; have hnb69 := NB303_298.out; have hnc69 := NB298_303.out; obtain ⟨hcz70_0, hcz70_1, hfz70_0, hfz70_1⟩ := zC2 BK303))
      have n0_ : Aside0 (((w68.setCell ⟨gb303, 0, none⟩ (.string ((rd_T88 l0_4 x29_2).f0))).setCell ⟨gb303, 1, none⟩ (.string ((rd_T88 l0_4 x29_2).f1))).heap[gb298]? = some (.cells #[.string a0_0, .string a0_1, .string a0_2, .string a0_3, .slice (some ad302) l0_4.length c0_4] 25 (0, 0))) := ⟨zF1 BK298 NB298_303⟩;have n1_ : Aside0 (((w68.setCell ⟨gb303, 0, none⟩ (.string ((rd_T88 l0_4 x29_2).f0))).setCell ⟨gb303, 1, none⟩ (.string ((rd_T88 l0_4 x29_2).f1))).heap[gb303]? = some (.cells #[.string ((rd_T88 l0_4 x29_2).f0), .string ((rd_T88 l0_4 x29_2).f1)] 88 (0, 0))) := ⟨zF BK303⟩;have n2_ : Aside0 (Below w.heap.size w ((w68.setCell ⟨gb303, 0, none⟩ (.string ((rd_T88 l0_4 x29_2).f0))).setCell ⟨gb303, 1, none⟩ (.string ((rd_T88 l0_4 x29_2).f1)))) := ⟨zB2 HB GE298 GE303⟩;(try clear BK298);(try clear BK303);(try clear HB);generalize ((w68.setCell ⟨gb303, 0, none⟩ (.string ((rd_T88 l0_4 x29_2).f0))).setCell ⟨gb303, 1, none⟩ (.string ((rd_T88 l0_4 x29_2).f1))) = w71 at n0_ n1_ n2_ ⊢;have BK298 := n0_;have BK303 := n1_;have HB := n2_;clear n0_ n1_ n2_;replace BK298 := zN (blk_drew BK298.out);replace BK303 := zN (blk_drew BK303.out);replace HB := zN (below_drew1 HB.out);refine start_ (n := 20) (S := fun w' => w'.cell? ⟨gb303, 0, none⟩ = some (.string ((rd_T88 l0_4 x29_2).f0)) ∧ w'.cell? ⟨gb303, 1, none⟩ = some (.string ((rd_T88 l0_4 x29_2).f1))) (ds := []) head_Write.a0 zQ rfl rfl ⟨(blk_cell BK303.out 0).trans rfl, (blk_cell BK303.out 1).trans rfl⟩ (fun hHeld => ?_); refine with_tabW head_Write.tab6 head_Write.bits6 (fun HT_ HW_ => ?_);generalize w71.drew = w72 at BK298 BK303 HB hHeld ⊢;refine pure_ (i := 0) (N := some 33) (v := ?_) (a' := ?_) head_Write.a1 rfl rfl (any_of HT_.out zQ) (fun _ _ _ h => h) (Or.inl ⟨by rfl, ?_⟩) ?_ ?_;rotate_left
      ·intro w';go_simp
       with_reducible rfl
      rotate_left
      ·simp only [zP];rfl
      refine pure_ (i := 1) (N := some 34) (v := ?_) (a' := ?_) head_Write.a2 rfl rfl (any_of HT_.out zQ) (fun _ _ _ h => h) (Or.inl ⟨by rfl, ?_⟩) ?_ ?_;rotate_left
      ·intro w';go_simp
       with_reducible rfl
      rotate_left
      ·simp only [zP];rfl
      refine pure_ (i := 2) (N := some 35) (v := ?_) (a' := ?_) head_Write.a3 rfl rfl (any_of HT_.out zQ) (fun _ _ _ h => h) (Or.inl ⟨by rfl, ?_⟩) ?_ ?_;rotate_left
      ·intro w';go_simp
       with_reducible rfl
      rotate_left
      ·simp only [zP];rfl
      refine take_ (i := 3) (N := some 36) (v := ?_) (a' := ?_) head_Write.a4 rfl rfl (take_ofW HT_.out HW_.out zQ) (fun _ _ _ h => h) (Or.inl ⟨by rfl, ?_⟩) hHeld ?_ ?_;rotate_left
      ·rintro w' ⟨s0, s1⟩;go_simp
       with_reducible rfl
      rotate_left
      ·simp only [zP];rfl
      refine one_ (i := 4) (N := some 37) head_Write.a5 rfl rfl (one_of HT_.out zQ) (by decide) (fun K hK => ?_);refine goes_ Tryz.func22 zQ rfl #[.string ((rd_T88 l0_4 x29_2).f0)] (by rfl) rfl rfl zM ?_
      with_reducible refine (head_token.calls k2 ((rd_T88 l0_4 x29_2).f0) true _ A17.out).mono ?_
      rintro e w' ⟨rfl, ⟨nd, rfl⟩⟩;refine ⟨_, rfl, ?_⟩;refine hK.out _ _ ⟨(blk_cell BK303.out 0).trans rfl, (blk_cell BK303.out 1).trans rfl⟩ (fun hHeld => ?_);clear hK K;refine norm_ (a' := ?_) ?_ ?_;rotate_left
      ·show Act.put _ (some 37) _ = _
       simp only [zP];rfl
      refine pure_ (i := 5) (N := some 38) (v := ?_) (a' := ?_) head_Write.a6 rfl rfl (any_of HT_.out zQ) (fun _ _ _ h => h) (Or.inl ⟨by rfl, ?_⟩) ?_ ?_;rotate_left
      ·intro w';go_simp
       with_reducible rfl
      rotate_left
      ·simp only [zP];rfl
      refine pure_ (i := 6) (N := some 39) (v := ?_) (a' := ?_) head_Write.a7 rfl rfl (any_of HT_.out zQ) (fun _ _ _ h => h) (Or.inl ⟨by rfl, ?_⟩) ?_ ?_;rotate_left
      ·intro w';go_simp
       with_reducible rfl
      rotate_left
      ·simp only [zP];rfl
      refine pure_ (i := 7) (N := some 40) (v := ?_) (a' := ?_) head_Write.a8 rfl rfl (any_of HT_.out zQ) (fun _ _ _ h => h) (Or.inl ⟨by rfl, ?_⟩) ?_ ?_;rotate_left
      ·intro w';go_simp
       with_reducible rfl
      rotate_left
      ·simp only [zP];rfl
      refine pure_ (i := 10) (N := some 43) (v := ?_) (a' := ?_) head_Write.a9 rfl rfl (any_of HT_.out zQ) (fun _ _ _ h => h) (Or.inl ⟨by rfl, ?_⟩) ?_ ?_;rotate_left
      ·intro w';go_simp
       with_reducible rfl
      rotate_left
      ·simp only [zP];rfl
      refine take_ (i := 8) (N := some 41) (v := ?_) (a' := ?_) head_Write.a10 rfl rfl (take_ofW HT_.out HW_.out zQ) (fun _ _ _ h => h) (Or.inl ⟨by rfl, ?_⟩) hHeld ?_ ?_;rotate_left
      ·rintro w' ⟨s0, s1⟩;go_simp
       with_reducible rfl
      rotate_left
      ·simp only [zP];rfl
      refine take_ (i := 11) (N := some 44) (v := ?_) (a' := ?_) head_Write.a11 rfl rfl (take_ofW HT_.out HW_.out zQ) (fun _ _ _ h => h) (Or.inl ⟨by rfl, ?_⟩) hHeld ?_ ?_;rotate_left
      ·rintro w' ⟨s0, s1⟩;go_simp
       with_reducible rfl
      rotate_left
      ·simp only [zP];rfl
      refine one_ (i := 9) (N := some 42) head_Write.a12 rfl rfl (one_of HT_.out zQ) (by decide) (fun K hK => ?_);refine goes_ Tryz.func25 zQ rfl #[.string ((rd_T88 l0_4 x29_2).f0)] (by rfl) rfl rfl zM ?_
      with_reducible refine (head_lower.calls ((rd_T88 l0_4 x29_2).f0) t305 _ A19.out).mono ?_
      rintro e w73 ⟨rfl, hb⟩;refine ⟨_, rfl, ?_⟩;replace BK298 := zj BK298 hb;replace BK303 := zj BK303 hb;replace HB := zk2 HB GE298 GE303 hb;(try clear hb);(try clear hb2);(try clear hk);(try clear hi);refine hK.out _ _ ⟨(blk_cell BK303.out 0).trans rfl, (blk_cell BK303.out 1).trans rfl⟩ (fun hHeld => ?_);clear hK K;refine norm_ (a' := ?_) ?_ ?_;rotate_left
      ·show Act.put _ (some 42) _ = _
       simp only [zP];rfl
      refine pure_ (i := 12) (N := some 45) (v := ?_) (a' := ?_) head_Write.a13 rfl rfl (any_of HT_.out zQ) (fun _ _ _ h => h) (Or.inl ⟨by rfl, ?_⟩) ?_ ?_;rotate_left
      ·intro w';go_simp
       with_reducible rfl
      rotate_left
      ·simp only [zP];rfl
      refine pure_ (i := 13) (N := some 46) (v := ?_) (a' := ?_) head_Write.a14 rfl rfl (any_of HT_.out zQ) (fun _ _ _ h => h) (Or.inl ⟨by rfl, ?_⟩) ?_ ?_;rotate_left
      ·intro w';go_simp
       with_reducible rfl
      rotate_left
      ·simp only [zP];rfl
      refine pure_ (i := 14) (N := some 47) (v := ?_) (a' := ?_) head_Write.a15 rfl rfl (any_of HT_.out zQ) (fun _ _ _ h => h) (Or.inl ⟨by rfl, ?_⟩) ?_ ?_;rotate_left
      ·intro w';go_simp
       with_reducible rfl
      rotate_left
      ·simp only [zP];rfl
      refine pure_ (i := 15) (N := some 48) (v := undef) (a' := ?_) head_Write.a16 rfl rfl (any_of HT_.out zQ) (fun _ _ _ h => h) (Or.inr ⟨by rfl, rfl⟩) ?_ ?_;rotate_left
      ·simp only [zP];rfl
      refine pure_ (i := 16) (N := some 49) (v := undef) (a' := ?_) head_Write.a17 rfl rfl (any_of HT_.out zQ) (fun _ _ _ h => h) (Or.inr ⟨by rfl, rfl⟩) ?_ ?_;rotate_left
      ·simp only [zP];rfl
      refine pure_ (i := 17) (N := some 50) (v := undef) (a' := ?_) head_Write.a18 rfl rfl (any_of HT_.out zQ) (fun _ _ _ h => h) (Or.inr ⟨by rfl, rfl⟩) ?_ ?_;rotate_left
      ·simp only [zP];rfl
      refine pure_ (i := 18) (N := some 51) (v := ?_) (a' := ?_) head_Write.a19 rfl rfl (any_of HT_.out zQ) (fun _ _ _ h => h) (Or.inl ⟨by rfl, ?_⟩) ?_ ?_;rotate_left
      ·intro w';go_simp
       with_reducible rfl
      rotate_left
      ·simp only [zP];rfl
      refine pure_ (i := 19) (N := some 4) (v := ?_) (a' := ?_) head_Write.a20 rfl rfl (any_of HT_.out zQ) (fun _ _ _ h => h) (Or.inl ⟨by rfl, ?_⟩) ?_ ?_;rotate_left
      ·intro w';go_simp
       with_reducible rfl
      rotate_left
      ·simp only [zP];rfl
      refine done_ (done_of HT_.out zQ) ?_;obtain ⟨hcz74_0, hcz74_1, hfz74_0, hfz74_1⟩ := zC2 BK303
      try go_wp2
      go_roundg k2
      case measure => have := HJ1.out; have := HK2.out; omega
      case rel => exact ⟨(false), (x5_2), (wrap64 (x29_2 + 1)), zI, zI, zI, H', ⟨by have := HJ1.out; have := HK2.out; omega⟩, ⟨zK BK298⟩, ⟨zB2 HB GE298 GE303⟩⟩
     rw [zp c20] at H;have c20b0 := beq_iff_eq.mpr c20;have c20b1 := zc.mpr c20;clear c20;obtain ⟨t306, A21, H⟩ := zA H;(try dsimp only at H);by_cases c22 : ((rd_T88 l0_4 x29_2).f0).toList = ([104, 111, 115, 116] : List UInt8);rotate_left
     ·rw [zn c22] at H;have c22b0 := zb.mpr c22;have c22b1 := bne_iff_ne.mpr c22;have H' := zN H;clear H;have p302 : 0 ≤ (x29_2 : Int) := zd zS;have q302 : x29_2 < (l0_4.length : Int) := zd zS;obtain ⟨ad302, e302, hx302_0, hx302_1⟩ := at_T88 HR0_4.out x29_2 p302 q302;cases e302;replace hx302_0 := (HB.out.cell (zw w _ hx302_0)).trans hx302_0;replace hx302_1 := (HB.out.cell (zw w _ hx302_1)).trans hx302_1;replace p302 := zu p302;replace q302 := zu q302
      try go_wp2_with (first | ((with_reducible refine gate_dst (N := 7) rfl ?_); (try (refine gate_guard (by rfl) ?_; dsimp only)); refine zX #[.string (⟨#[]⟩ : ByteArray), .string (⟨#[]⟩ : ByteArray)] 88 rfl ?_; intro gb303 hg w51 hbox hb; have BK303 := zN hbox; have GW303 := zY w (zB1 HB GE298) hg; have GE303 := zY w (zB1 HB GE298) hg; replace HB := zk1 HB GE298 hb; have NB298_303 := zl BK298 hg; have NB303_298 := zl' BK298 hg; replace BK298 := zj BK298 hb; clear hb hbox hg; have hnb52 := NB303_298.out; have hnc52 := NB298_303.out; obtain ⟨hcz53_0, hcz53_1, hfz53_0, hfz53_1⟩ := zC2 BK303))
      have n0_ : Aside0 (((w51.setCell ⟨gb303, 0, none⟩ (.string ((rd_T88 l0_4 x29_2).f0))).setCell ⟨gb303, 1, none⟩ (.string ((rd_T88 l0_4 x29_2).f1))).heap[gb298]? = some (.cells #[.string a0_0, .string a0_1, .string a0_2, .string a0_3, .slice (some ad302) l0_4.length c0_4] 25 (0, 0))) := ⟨zF1 BK298 NB298_303⟩;have n1_ : Aside0 (((w51.setCell ⟨gb303, 0, none⟩ (.string ((rd_T88 l0_4 x29_2).f0))).setCell ⟨gb303, 1, none⟩ (.string ((rd_T88 l0_4 x29_2).f1))).heap[gb303]? = some (.cells #[.string ((rd_T88 l0_4 x29_2).f0), .string ((rd_T88 l0_4 x29_2).f1)] 88 (0, 0))) := ⟨zF BK303⟩;have n2_ : Aside0 (Below w.heap.size w ((w51.setCell ⟨gb303, 0, none⟩ (.string ((rd_T88 l0_4 x29_2).f0))).setCell ⟨gb303, 1, none⟩ (.string ((rd_T88 l0_4 x29_2).f1)))) := ⟨zB2 HB GE298 GE303⟩;(try clear BK298);(try clear BK303);(try clear HB);generalize ((w51.setCell ⟨gb303, 0, none⟩ (.string ((rd_T88 l0_4 x29_2).f0))).setCell ⟨gb303, 1, none⟩ (.string ((rd_T88 l0_4 x29_2).f1))) = w54 at n0_ n1_ n2_ ⊢;have BK298 := n0_;have BK303 := n1_;have HB := n2_;clear n0_ n1_ n2_;replace BK298 := zN (blk_drew BK298.out);replace BK303 := zN (blk_drew BK303.out);replace HB := zN (below_drew1 HB.out);refine start_ (n := 20) (S := fun w' => w'.cell? ⟨gb303, 0, none⟩ = some (.string ((rd_T88 l0_4 x29_2).f0)) ∧ w'.cell? ⟨gb303, 1, none⟩ = some (.string ((rd_T88 l0_4 x29_2).f1))) (ds := []) head_Write.a0 zQ rfl rfl ⟨(blk_cell BK303.out 0).trans rfl, (blk_cell BK303.out 1).trans rfl⟩ (fun hHeld => ?_); refine with_tabW head_Write.tab6 head_Write.bits6 (fun HT_ HW_ => ?_);generalize w54.drew = w55 at BK298 BK303 HB hHeld ⊢;refine pure_ (i := 0) (N := some 33) (v := ?_) (a' := ?_) head_Write.a1 rfl rfl (any_of HT_.out zQ) (fun _ _ _ h => h) (Or.inl ⟨by rfl, ?_⟩) ?_ ?_;rotate_left
      ·intro w';go_simp
       with_reducible rfl
      rotate_left
      ·simp only [zP];rfl
      refine pure_ (i := 1) (N := some 34) (v := ?_) (a' := ?_) head_Write.a2 rfl rfl (any_of HT_.out zQ) (fun _ _ _ h => h) (Or.inl ⟨by rfl, ?_⟩) ?_ ?_;rotate_left
      ·intro w';go_simp
       with_reducible rfl
      rotate_left
      ·simp only [zP];rfl
      refine pure_ (i := 2) (N := some 35) (v := ?_) (a' := ?_) head_Write.a3 rfl rfl (any_of HT_.out zQ) (fun _ _ _ h => h) (Or.inl ⟨by rfl, ?_⟩) ?_ ?_;rotate_left
      ·intro w';go_simp
       with_reducible rfl
      rotate_left
      ·simp only [zP];rfl
      refine take_ (i := 3) (N := some 36) (v := ?_) (a' := ?_) head_Write.a4 rfl rfl (take_ofW HT_.out HW_.out zQ) (fun _ _ _ h => h) (Or.inl ⟨by rfl, ?_⟩) hHeld ?_ ?_;rotate_left
      ·rintro w' ⟨s0, s1⟩;go_simp
       with_reducible rfl
      rotate_left
      ·simp only [zP];rfl
      refine one_ (i := 4) (N := some 37) head_Write.a5 rfl rfl (one_of HT_.out zQ) (by decide) (fun K hK => ?_);refine goes_ Tryz.func22 zQ rfl #[.string ((rd_T88 l0_4 x29_2).f0)] (by rfl) rfl rfl zM ?_
      with_reducible refine (head_token.calls k2 ((rd_T88 l0_4 x29_2).f0) true _ A17.out).mono ?_
      rintro e w' ⟨rfl, ⟨nd, rfl⟩⟩;refine ⟨_, rfl, ?_⟩;refine hK.out _ _ ⟨(blk_cell BK303.out 0).trans rfl, (blk_cell BK303.out 1).trans rfl⟩ (fun hHeld => ?_);clear hK K;refine norm_ (a' := ?_) ?_ ?_;rotate_left
      ·show Act.put _ (some 37) _ = _
       simp only [zP];rfl
      refine pure_ (i := 5) (N := some 38) (v := ?_) (a' := ?_) head_Write.a6 rfl rfl (any_of HT_.out zQ) (fun _ _ _ h => h) (Or.inl ⟨by rfl, ?_⟩) ?_ ?_;rotate_left
      ·intro w';go_simp
       with_reducible rfl
      rotate_left
      ·simp only [zP];rfl
      refine pure_ (i := 6) (N := some 39) (v := ?_) (a' := ?_) head_Write.a7 rfl rfl (any_of HT_.out zQ) (fun _ _ _ h => h) (Or.inl ⟨by rfl, ?_⟩) ?_ ?_;rotate_left
      ·intro w';go_simp
       with_reducible rfl
      rotate_left
      ·simp only [zP];rfl
      refine pure_ (i := 7) (N := some 40) (v := ?_) (a' := ?_) head_Write.a8 rfl rfl (any_of HT_.out zQ) (fun _ _ _ h => h) (Or.inl ⟨by rfl, ?_⟩) ?_ ?_;rotate_left
      ·intro w';go_simp
       with_reducible rfl
      rotate_left
      ·simp only [zP];rfl
      refine pure_ (i := 10) (N := some 43) (v := ?_) (a' := ?_) head_Write.a9 rfl rfl (any_of HT_.out zQ) (fun _ _ _ h => h) (Or.inl ⟨by rfl, ?_⟩) ?_ ?_;rotate_left
      ·intro w';go_simp
       with_reducible rfl
      rotate_left
      ·simp only [zP];rfl
      refine take_ (i := 8) (N := some 41) (v := ?_) (a' := ?_) head_Write.a10 rfl rfl (take_ofW HT_.out HW_.out zQ) (fun _ _ _ h => h) (Or.inl ⟨by rfl, ?_⟩) hHeld ?_ ?_;rotate_left
      ·rintro w' ⟨s0, s1⟩;go_simp
       with_reducible rfl
      rotate_left
      ·simp only [zP];rfl
      refine take_ (i := 11) (N := some 44) (v := ?_) (a' := ?_) head_Write.a11 rfl rfl (take_ofW HT_.out HW_.out zQ) (fun _ _ _ h => h) (Or.inl ⟨by rfl, ?_⟩) hHeld ?_ ?_;rotate_left
      ·rintro w' ⟨s0, s1⟩;go_simp
       with_reducible rfl
      rotate_left
      ·simp only [zP];rfl
      refine one_ (i := 9) (N := some 42) head_Write.a12 rfl rfl (one_of HT_.out zQ) (by decide) (fun K hK => ?_);refine goes_ Tryz.func25 zQ rfl #[.string ((rd_T88 l0_4 x29_2).f0)] (by rfl) rfl rfl zM ?_
      with_reducible refine (head_lower.calls ((rd_T88 l0_4 x29_2).f0) t305 _ A19.out).mono ?_
      rintro e w56 ⟨rfl, hb⟩;refine ⟨_, rfl, ?_⟩;replace BK298 := zj BK298 hb;replace BK303 := zj BK303 hb;replace HB := zk2 HB GE298 GE303 hb;(try clear hb);(try clear hb2);(try clear hk);(try clear hi);refine hK.out _ _ ⟨(blk_cell BK303.out 0).trans rfl, (blk_cell BK303.out 1).trans rfl⟩ (fun hHeld => ?_);clear hK K;refine norm_ (a' := ?_) ?_ ?_;rotate_left
      ·show Act.put _ (some 42) _ = _
       simp only [zP];rfl
      refine pure_ (i := 12) (N := some 45) (v := ?_) (a' := ?_) head_Write.a13 rfl rfl (any_of HT_.out zQ) (fun _ _ _ h => h) (Or.inl ⟨by rfl, ?_⟩) ?_ ?_;rotate_left
      ·intro w';go_simp
       with_reducible rfl
      rotate_left
      ·simp only [zP];rfl
      refine pure_ (i := 13) (N := some 46) (v := ?_) (a' := ?_) head_Write.a14 rfl rfl (any_of HT_.out zQ) (fun _ _ _ h => h) (Or.inl ⟨by rfl, ?_⟩) ?_ ?_;rotate_left
      ·intro w';go_simp
       with_reducible rfl
      rotate_left
      ·simp only [zP];rfl
      refine pure_ (i := 14) (N := some 47) (v := ?_) (a' := ?_) head_Write.a15 rfl rfl (any_of HT_.out zQ) (fun _ _ _ h => h) (Or.inl ⟨by rfl, ?_⟩) ?_ ?_;rotate_left
      ·intro w';go_simp
       with_reducible rfl
      rotate_left
      ·simp only [zP];rfl
      refine pure_ (i := 15) (N := some 48) (v := ?_) (a' := ?_) head_Write.a16 rfl rfl (any_of HT_.out zQ) (fun _ _ _ h => h) (Or.inl ⟨by rfl, ?_⟩) ?_ ?_;rotate_left
      ·intro w';go_simp
       with_reducible rfl
      rotate_left
      ·simp only [zP];rfl
      refine take_ (i := 16) (N := some 49) (v := ?_) (a' := ?_) head_Write.a17 rfl rfl (take_ofW HT_.out HW_.out zQ) (fun _ _ _ h => h) (Or.inl ⟨by rfl, ?_⟩) hHeld ?_ ?_;rotate_left
      ·rintro w' ⟨s0, s1⟩;go_simp
       with_reducible rfl
      rotate_left
      ·simp only [zP];rfl
      refine one_ (i := 17) (N := some 50) head_Write.a18 rfl rfl (one_of HT_.out zQ) (by decide) (fun K hK => ?_);refine goes_ Tryz.func26 zQ rfl #[.string ((rd_T88 l0_4 x29_2).f1)] (by rfl) rfl rfl zM ?_
      with_reducible refine (head_value.calls k2 ((rd_T88 l0_4 x29_2).f1) t306 _ A21.out).mono ?_
      rintro e w' ⟨rfl, ⟨nd, rfl⟩⟩;refine ⟨_, rfl, ?_⟩;refine hK.out _ _ ⟨(blk_cell BK303.out 0).trans rfl, (blk_cell BK303.out 1).trans rfl⟩ (fun hHeld => ?_);clear hK K;refine norm_ (a' := ?_) ?_ ?_;rotate_left
      ·show Act.put _ (some 50) _ = _
       simp only [zP];rfl
      refine pure_ (i := 18) (N := some 51) (v := ?_) (a' := ?_) head_Write.a19 rfl rfl (any_of HT_.out zQ) (fun _ _ _ h => h) (Or.inl ⟨by rfl, ?_⟩) ?_ ?_;rotate_left
      ·intro w';go_simp
       with_reducible rfl
      rotate_left
      ·simp only [zP];rfl
      refine pure_ (i := 19) (N := some 4) (v := ?_) (a' := ?_) head_Write.a20 rfl rfl (any_of HT_.out zQ) (fun _ _ _ h => h) (Or.inl ⟨by rfl, ?_⟩) ?_ ?_;rotate_left
      ·intro w';go_simp
       with_reducible rfl
      rotate_left
      ·simp only [zP];rfl
      refine done_ (done_of HT_.out zQ) ?_;obtain ⟨hcz57_0, hcz57_1, hfz57_0, hfz57_1⟩ := zC2 BK303
      try go_wp2
      go_roundg k2
      case measure => have := HJ1.out; have := HK2.out; omega
      case rel => exact ⟨(t306), (x5_2), (wrap64 (x29_2 + 1)), zI, zI, zI, H', ⟨by have := HJ1.out; have := HK2.out; omega⟩, ⟨zK BK298⟩, ⟨zB2 HB GE298 GE303⟩⟩
     rw [zp c22] at H;have c22b0 := beq_iff_eq.mpr c22;have c22b1 := zc.mpr c22;clear c22;obtain ⟨⟨t307, t308⟩, A23, H⟩ := zA H;(try dsimp only at H);by_cases c24 : t306 = true;rotate_left
     ·replace c24 := zq.mpr c24;subst c24;have H1 := H; rw [zn (show ¬ (false = true) by decide)] at H1;clear H;have H := H1;clear H1;have H' := zN H;clear H;have p302 : 0 ≤ (x29_2 : Int) := zd zS;have q302 : x29_2 < (l0_4.length : Int) := zd zS;obtain ⟨ad302, e302, hx302_0, hx302_1⟩ := at_T88 HR0_4.out x29_2 p302 q302;cases e302;replace hx302_0 := (HB.out.cell (zw w _ hx302_0)).trans hx302_0;replace hx302_1 := (HB.out.cell (zw w _ hx302_1)).trans hx302_1;replace p302 := zu p302;replace q302 := zu q302
      try go_wp2_with (first | ((with_reducible refine gate_dst (N := 7) rfl ?_); (try (refine gate_guard (by rfl) ?_; dsimp only)); refine zX #[.string (⟨#[]⟩ : ByteArray), .string (⟨#[]⟩ : ByteArray)] 88 rfl ?_; intro gb303 hg w43 hbox hb; have BK303 := zN hbox; have GW303 := zY w (zB1 HB GE298) hg; have GE303 := zY w (zB1 HB GE298) hg; replace HB := zk1 HB GE298 hb; have NB298_303 := zl BK298 hg; have NB303_298 := zl' BK298 hg; replace BK298 := zj BK298 hb; clear hb hbox hg; have hnb44 := NB303_298.out; have hnc44 := NB298_303.out; obtain ⟨hcz45_0, hcz45_1, hfz45_0, hfz45_1⟩ := zC2 BK303))
      have n0_ : Aside0 (((w43.setCell ⟨gb303, 0, none⟩ (.string ((rd_T88 l0_4 x29_2).f0))).setCell ⟨gb303, 1, none⟩ (.string ((rd_T88 l0_4 x29_2).f1))).heap[gb298]? = some (.cells #[.string a0_0, .string a0_1, .string a0_2, .string a0_3, .slice (some ad302) l0_4.length c0_4] 25 (0, 0))) := ⟨zF1 BK298 NB298_303⟩;have n1_ : Aside0 (((w43.setCell ⟨gb303, 0, none⟩ (.string ((rd_T88 l0_4 x29_2).f0))).setCell ⟨gb303, 1, none⟩ (.string ((rd_T88 l0_4 x29_2).f1))).heap[gb303]? = some (.cells #[.string ((rd_T88 l0_4 x29_2).f0), .string ((rd_T88 l0_4 x29_2).f1)] 88 (0, 0))) := ⟨zF BK303⟩;have n2_ : Aside0 (Below w.heap.size w ((w43.setCell ⟨gb303, 0, none⟩ (.string ((rd_T88 l0_4 x29_2).f0))).setCell ⟨gb303, 1, none⟩ (.string ((rd_T88 l0_4 x29_2).f1)))) := ⟨zB2 HB GE298 GE303⟩;(try clear BK298);(try clear BK303);(try clear HB);generalize ((w43.setCell ⟨gb303, 0, none⟩ (.string ((rd_T88 l0_4 x29_2).f0))).setCell ⟨gb303, 1, none⟩ (.string ((rd_T88 l0_4 x29_2).f1))) = w46 at n0_ n1_ n2_ ⊢;have BK298 := n0_;have BK303 := n1_;have HB := n2_;clear n0_ n1_ n2_;replace BK298 := zN (blk_drew BK298.out);replace BK303 := zN (blk_drew BK303.out);replace HB := zN (below_drew1 HB.out);refine start_ (n := 20) (S := fun w' => w'.cell? ⟨gb303, 0, none⟩ = some (.string ((rd_T88 l0_4 x29_2).f0)) ∧ w'.cell? ⟨gb303, 1, none⟩ = some (.string ((rd_T88 l0_4 x29_2).f1))) (ds := []) head_Write.a0 zQ rfl rfl ⟨(blk_cell BK303.out 0).trans rfl, (blk_cell BK303.out 1).trans rfl⟩ (fun hHeld => ?_); refine with_tabW head_Write.tab6 head_Write.bits6 (fun HT_ HW_ => ?_);generalize w46.drew = w47 at BK298 BK303 HB hHeld ⊢;refine pure_ (i := 0) (N := some 33) (v := ?_) (a' := ?_) head_Write.a1 rfl rfl (any_of HT_.out zQ) (fun _ _ _ h => h) (Or.inl ⟨by rfl, ?_⟩) ?_ ?_;rotate_left
      ·intro w';go_simp
       with_reducible rfl
      rotate_left
      ·simp only [zP];rfl
      refine pure_ (i := 1) (N := some 34) (v := ?_) (a' := ?_) head_Write.a2 rfl rfl (any_of HT_.out zQ) (fun _ _ _ h => h) (Or.inl ⟨by rfl, ?_⟩) ?_ ?_;rotate_left
      ·intro w';go_simp
       with_reducible rfl
      rotate_left
      ·simp only [zP];rfl
      refine pure_ (i := 2) (N := some 35) (v := ?_) (a' := ?_) head_Write.a3 rfl rfl (any_of HT_.out zQ) (fun _ _ _ h => h) (Or.inl ⟨by rfl, ?_⟩) ?_ ?_;rotate_left
      ·intro w';go_simp
       with_reducible rfl
      rotate_left
      ·simp only [zP];rfl
      refine take_ (i := 3) (N := some 36) (v := ?_) (a' := ?_) head_Write.a4 rfl rfl (take_ofW HT_.out HW_.out zQ) (fun _ _ _ h => h) (Or.inl ⟨by rfl, ?_⟩) hHeld ?_ ?_;rotate_left
      ·rintro w' ⟨s0, s1⟩;go_simp
       with_reducible rfl
      rotate_left
      ·simp only [zP];rfl
      refine one_ (i := 4) (N := some 37) head_Write.a5 rfl rfl (one_of HT_.out zQ) (by decide) (fun K hK => ?_);refine goes_ Tryz.func22 zQ rfl #[.string ((rd_T88 l0_4 x29_2).f0)] (by rfl) rfl rfl zM ?_
      with_reducible refine (head_token.calls k2 ((rd_T88 l0_4 x29_2).f0) true _ A17.out).mono ?_
      rintro e w' ⟨rfl, ⟨nd, rfl⟩⟩;refine ⟨_, rfl, ?_⟩;refine hK.out _ _ ⟨(blk_cell BK303.out 0).trans rfl, (blk_cell BK303.out 1).trans rfl⟩ (fun hHeld => ?_);clear hK K;refine norm_ (a' := ?_) ?_ ?_;rotate_left
      ·show Act.put _ (some 37) _ = _
       simp only [zP];rfl
      refine pure_ (i := 5) (N := some 38) (v := ?_) (a' := ?_) head_Write.a6 rfl rfl (any_of HT_.out zQ) (fun _ _ _ h => h) (Or.inl ⟨by rfl, ?_⟩) ?_ ?_;rotate_left
      ·intro w';go_simp
       with_reducible rfl
      rotate_left
      ·simp only [zP];rfl
      refine pure_ (i := 6) (N := some 39) (v := ?_) (a' := ?_) head_Write.a7 rfl rfl (any_of HT_.out zQ) (fun _ _ _ h => h) (Or.inl ⟨by rfl, ?_⟩) ?_ ?_;rotate_left
      ·intro w';go_simp
       with_reducible rfl
      rotate_left
      ·simp only [zP];rfl
      refine pure_ (i := 7) (N := some 40) (v := ?_) (a' := ?_) head_Write.a8 rfl rfl (any_of HT_.out zQ) (fun _ _ _ h => h) (Or.inl ⟨by rfl, ?_⟩) ?_ ?_;rotate_left
      ·intro w';go_simp
       with_reducible rfl
      rotate_left
      ·simp only [zP];rfl
      refine pure_ (i := 10) (N := some 43) (v := ?_) (a' := ?_) head_Write.a9 rfl rfl (any_of HT_.out zQ) (fun _ _ _ h => h) (Or.inl ⟨by rfl, ?_⟩) ?_ ?_;rotate_left
      ·intro w';go_simp
       with_reducible rfl
      rotate_left
      ·simp only [zP];rfl
      refine take_ (i := 8) (N := some 41) (v := ?_) (a' := ?_) head_Write.a10 rfl rfl (take_ofW HT_.out HW_.out zQ) (fun _ _ _ h => h) (Or.inl ⟨by rfl, ?_⟩) hHeld ?_ ?_;rotate_left
      ·rintro w' ⟨s0, s1⟩;go_simp
       with_reducible rfl
      rotate_left
      ·simp only [zP];rfl
      refine take_ (i := 11) (N := some 44) (v := ?_) (a' := ?_) head_Write.a11 rfl rfl (take_ofW HT_.out HW_.out zQ) (fun _ _ _ h => h) (Or.inl ⟨by rfl, ?_⟩) hHeld ?_ ?_;rotate_left
      ·rintro w' ⟨s0, s1⟩;go_simp
       with_reducible rfl
      rotate_left
      ·simp only [zP];rfl
      refine one_ (i := 9) (N := some 42) head_Write.a12 rfl rfl (one_of HT_.out zQ) (by decide) (fun K hK => ?_);refine goes_ Tryz.func25 zQ rfl #[.string ((rd_T88 l0_4 x29_2).f0)] (by rfl) rfl rfl zM ?_
      with_reducible refine (head_lower.calls ((rd_T88 l0_4 x29_2).f0) t305 _ A19.out).mono ?_
      rintro e w48 ⟨rfl, hb⟩;refine ⟨_, rfl, ?_⟩;replace BK298 := zj BK298 hb;replace BK303 := zj BK303 hb;replace HB := zk2 HB GE298 GE303 hb;(try clear hb);(try clear hb2);(try clear hk);(try clear hi);refine hK.out _ _ ⟨(blk_cell BK303.out 0).trans rfl, (blk_cell BK303.out 1).trans rfl⟩ (fun hHeld => ?_);clear hK K;refine norm_ (a' := ?_) ?_ ?_;rotate_left
      ·show Act.put _ (some 42) _ = _
       simp only [zP];rfl
      refine pure_ (i := 12) (N := some 45) (v := ?_) (a' := ?_) head_Write.a13 rfl rfl (any_of HT_.out zQ) (fun _ _ _ h => h) (Or.inl ⟨by rfl, ?_⟩) ?_ ?_;rotate_left
      ·intro w';go_simp
       with_reducible rfl
      rotate_left
      ·simp only [zP];rfl
      refine pure_ (i := 13) (N := some 46) (v := ?_) (a' := ?_) head_Write.a14 rfl rfl (any_of HT_.out zQ) (fun _ _ _ h => h) (Or.inl ⟨by rfl, ?_⟩) ?_ ?_;rotate_left
      ·intro w';go_simp
       with_reducible rfl
      rotate_left
      ·simp only [zP];rfl
      refine pure_ (i := 14) (N := some 47) (v := ?_) (a' := ?_) head_Write.a15 rfl rfl (any_of HT_.out zQ) (fun _ _ _ h => h) (Or.inl ⟨by rfl, ?_⟩) ?_ ?_;rotate_left
      ·intro w';go_simp
       with_reducible rfl
      rotate_left
      ·simp only [zP];rfl
      refine pure_ (i := 15) (N := some 48) (v := ?_) (a' := ?_) head_Write.a16 rfl rfl (any_of HT_.out zQ) (fun _ _ _ h => h) (Or.inl ⟨by rfl, ?_⟩) ?_ ?_;rotate_left
      ·intro w';go_simp
       with_reducible rfl
      rotate_left
      ·simp only [zP];rfl
      refine take_ (i := 16) (N := some 49) (v := ?_) (a' := ?_) head_Write.a17 rfl rfl (take_ofW HT_.out HW_.out zQ) (fun _ _ _ h => h) (Or.inl ⟨by rfl, ?_⟩) hHeld ?_ ?_;rotate_left
      ·rintro w' ⟨s0, s1⟩;go_simp
       with_reducible rfl
      rotate_left
      ·simp only [zP];rfl
      refine one_ (i := 17) (N := some 50) head_Write.a18 rfl rfl (one_of HT_.out zQ) (by decide) (fun K hK => ?_);refine goes_ Tryz.func26 zQ rfl #[.string ((rd_T88 l0_4 x29_2).f1)] (by rfl) rfl rfl zM ?_
      with_reducible refine (head_value.calls k2 ((rd_T88 l0_4 x29_2).f1) false _ A21.out).mono ?_
      rintro e w' ⟨rfl, ⟨nd, rfl⟩⟩;refine ⟨_, rfl, ?_⟩;refine hK.out _ _ ⟨(blk_cell BK303.out 0).trans rfl, (blk_cell BK303.out 1).trans rfl⟩ (fun hHeld => ?_);clear hK K;refine norm_ (a' := ?_) ?_ ?_;rotate_left
      ·show Act.put _ (some 50) _ = _
       simp only [zP];rfl
      refine pure_ (i := 18) (N := some 51) (v := ?_) (a' := ?_) head_Write.a19 rfl rfl (any_of HT_.out zQ) (fun _ _ _ h => h) (Or.inl ⟨by rfl, ?_⟩) ?_ ?_;rotate_left
      ·intro w';go_simp
       with_reducible rfl
      rotate_left
      ·simp only [zP];rfl
      refine pure_ (i := 19) (N := some 4) (v := ?_) (a' := ?_) head_Write.a20 rfl rfl (any_of HT_.out zQ) (fun _ _ _ h => h) (Or.inl ⟨by rfl, ?_⟩) ?_ ?_;rotate_left
      ·intro w';go_simp
       with_reducible rfl
      rotate_left
      ·simp only [zP];rfl
      refine done_ (done_of HT_.out zQ) ?_;obtain ⟨hcz49_0, hcz49_1, hfz49_0, hfz49_1⟩ := zC2 BK303
      try go_wp2_with (first | ((with_reducible refine gate_callee (f := 27) rfl ?_); refine zg (some 60) Tryz.func27 #[.string ((rd_T88 l0_4 x29_2).f1)] ?_; (with_reducible refine (head_Host.calls k2 ((rd_T88 l0_4 x29_2).f1) t307 t308 _ ?side1 A23.out).mono ?_); (case side1 => exact ML.keep HML.out (zB2 HB GE298 GE303)); rintro e w50 ⟨rfl, hb⟩; refine ⟨_, rfl, ?_⟩; replace BK298 := zj BK298 hb; replace BK303 := zj BK303 hb; replace HB := zk2 HB GE298 GE303 hb; (try clear hb); (try clear hb2); (try clear hk); (try clear hi)))
      go_roundg k2
      case measure => have := HJ1.out; have := HK2.out; omega
      case rel => exact ⟨(false), (wrap64 (x5_2 + 1)), (wrap64 (x29_2 + 1)), zI, zI, zI, H', ⟨by have := HJ1.out; have := HK2.out; omega⟩, ⟨zK BK298⟩, ⟨zB2 HB GE298 GE303⟩⟩
     subst c24;have H1 := H; rw [zp rfl] at H1;clear H;have H := H1;clear H1;by_cases c25 : t308 = true
     ·subst c25;have H1 := H; rw [zp rfl] at H1;clear H;have H := H1;clear H1;have H' := zN H;clear H;have p302 : 0 ≤ (x29_2 : Int) := zd zS;have q302 : x29_2 < (l0_4.length : Int) := zd zS;obtain ⟨ad302, e302, hx302_0, hx302_1⟩ := at_T88 HR0_4.out x29_2 p302 q302;cases e302;replace hx302_0 := (HB.out.cell (zw w _ hx302_0)).trans hx302_0;replace hx302_1 := (HB.out.cell (zw w _ hx302_1)).trans hx302_1;replace p302 := zu p302;replace q302 := zu q302
      try go_wp2_with (first | ((with_reducible refine gate_dst (N := 7) rfl ?_); (try (refine gate_guard (by rfl) ?_; dsimp only)); refine zX #[.string (⟨#[]⟩ : ByteArray), .string (⟨#[]⟩ : ByteArray)] 88 rfl ?_; intro gb303 hg w26 hbox hb; have BK303 := zN hbox; have GW303 := zY w (zB1 HB GE298) hg; have GE303 := zY w (zB1 HB GE298) hg; replace HB := zk1 HB GE298 hb; have NB298_303 := zl BK298 hg; have NB303_298 := zl' BK298 hg; replace BK298 := zj BK298 hb; clear hb hbox hg; have hnb27 := NB303_298.out; have hnc27 := NB298_303.out; obtain ⟨hcz28_0, hcz28_1, hfz28_0, hfz28_1⟩ := zC2 BK303))
      have n0_ : Aside0 (((w26.setCell ⟨gb303, 0, none⟩ (.string ((rd_T88 l0_4 x29_2).f0))).setCell ⟨gb303, 1, none⟩ (.string ((rd_T88 l0_4 x29_2).f1))).heap[gb298]? = some (.cells #[.string a0_0, .string a0_1, .string a0_2, .string a0_3, .slice (some ad302) l0_4.length c0_4] 25 (0, 0))) := ⟨zF1 BK298 NB298_303⟩;have n1_ : Aside0 (((w26.setCell ⟨gb303, 0, none⟩ (.string ((rd_T88 l0_4 x29_2).f0))).setCell ⟨gb303, 1, none⟩ (.string ((rd_T88 l0_4 x29_2).f1))).heap[gb303]? = some (.cells #[.string ((rd_T88 l0_4 x29_2).f0), .string ((rd_T88 l0_4 x29_2).f1)] 88 (0, 0))) := ⟨zF BK303⟩;have n2_ : Aside0 (Below w.heap.size w ((w26.setCell ⟨gb303, 0, none⟩ (.string ((rd_T88 l0_4 x29_2).f0))).setCell ⟨gb303, 1, none⟩ (.string ((rd_T88 l0_4 x29_2).f1)))) := ⟨zB2 HB GE298 GE303⟩;(try clear BK298);(try clear BK303);(try clear HB);generalize ((w26.setCell ⟨gb303, 0, none⟩ (.string ((rd_T88 l0_4 x29_2).f0))).setCell ⟨gb303, 1, none⟩ (.string ((rd_T88 l0_4 x29_2).f1))) = w29 at n0_ n1_ n2_ ⊢;have BK298 := n0_;have BK303 := n1_;have HB := n2_;clear n0_ n1_ n2_;replace BK298 := zN (blk_drew BK298.out);replace BK303 := zN (blk_drew BK303.out);replace HB := zN (below_drew1 HB.out);refine start_ (n := 20) (S := fun w' => w'.cell? ⟨gb303, 0, none⟩ = some (.string ((rd_T88 l0_4 x29_2).f0)) ∧ w'.cell? ⟨gb303, 1, none⟩ = some (.string ((rd_T88 l0_4 x29_2).f1))) (ds := []) head_Write.a0 zQ rfl rfl ⟨(blk_cell BK303.out 0).trans rfl, (blk_cell BK303.out 1).trans rfl⟩ (fun hHeld => ?_); refine with_tabW head_Write.tab6 head_Write.bits6 (fun HT_ HW_ => ?_);generalize w29.drew = w30 at BK298 BK303 HB hHeld ⊢;refine pure_ (i := 0) (N := some 33) (v := ?_) (a' := ?_) head_Write.a1 rfl rfl (any_of HT_.out zQ) (fun _ _ _ h => h) (Or.inl ⟨by rfl, ?_⟩) ?_ ?_;rotate_left
      ·intro w';go_simp
       with_reducible rfl
      rotate_left
      ·simp only [zP];rfl
      refine pure_ (i := 1) (N := some 34) (v := ?_) (a' := ?_) head_Write.a2 rfl rfl (any_of HT_.out zQ) (fun _ _ _ h => h) (Or.inl ⟨by rfl, ?_⟩) ?_ ?_;rotate_left
      ·intro w';go_simp
       with_reducible rfl
      rotate_left
      ·simp only [zP];rfl
      refine pure_ (i := 2) (N := some 35) (v := ?_) (a' := ?_) head_Write.a3 rfl rfl (any_of HT_.out zQ) (fun _ _ _ h => h) (Or.inl ⟨by rfl, ?_⟩) ?_ ?_;rotate_left
      ·intro w';go_simp
       with_reducible rfl
      rotate_left
      ·simp only [zP];rfl
      refine take_ (i := 3) (N := some 36) (v := ?_) (a' := ?_) head_Write.a4 rfl rfl (take_ofW HT_.out HW_.out zQ) (fun _ _ _ h => h) (Or.inl ⟨by rfl, ?_⟩) hHeld ?_ ?_;rotate_left
      ·rintro w' ⟨s0, s1⟩;go_simp
       with_reducible rfl
      rotate_left
      ·simp only [zP];rfl
      refine one_ (i := 4) (N := some 37) head_Write.a5 rfl rfl (one_of HT_.out zQ) (by decide) (fun K hK => ?_);refine goes_ Tryz.func22 zQ rfl #[.string ((rd_T88 l0_4 x29_2).f0)] (by rfl) rfl rfl zM ?_
      with_reducible refine (head_token.calls k2 ((rd_T88 l0_4 x29_2).f0) true _ A17.out).mono ?_
      rintro e w' ⟨rfl, ⟨nd, rfl⟩⟩;refine ⟨_, rfl, ?_⟩;refine hK.out _ _ ⟨(blk_cell BK303.out 0).trans rfl, (blk_cell BK303.out 1).trans rfl⟩ (fun hHeld => ?_);clear hK K;refine norm_ (a' := ?_) ?_ ?_;rotate_left
      ·show Act.put _ (some 37) _ = _
       simp only [zP];rfl
      refine pure_ (i := 5) (N := some 38) (v := ?_) (a' := ?_) head_Write.a6 rfl rfl (any_of HT_.out zQ) (fun _ _ _ h => h) (Or.inl ⟨by rfl, ?_⟩) ?_ ?_;rotate_left
      ·intro w';go_simp
       with_reducible rfl
      rotate_left
      ·simp only [zP];rfl
      refine pure_ (i := 6) (N := some 39) (v := ?_) (a' := ?_) head_Write.a7 rfl rfl (any_of HT_.out zQ) (fun _ _ _ h => h) (Or.inl ⟨by rfl, ?_⟩) ?_ ?_;rotate_left
      ·intro w';go_simp
       with_reducible rfl
      rotate_left
      ·simp only [zP];rfl
      refine pure_ (i := 7) (N := some 40) (v := ?_) (a' := ?_) head_Write.a8 rfl rfl (any_of HT_.out zQ) (fun _ _ _ h => h) (Or.inl ⟨by rfl, ?_⟩) ?_ ?_;rotate_left
      ·intro w';go_simp
       with_reducible rfl
      rotate_left
      ·simp only [zP];rfl
      refine pure_ (i := 10) (N := some 43) (v := ?_) (a' := ?_) head_Write.a9 rfl rfl (any_of HT_.out zQ) (fun _ _ _ h => h) (Or.inl ⟨by rfl, ?_⟩) ?_ ?_;rotate_left
      ·intro w';go_simp
       with_reducible rfl
      rotate_left
      ·simp only [zP];rfl
      refine take_ (i := 8) (N := some 41) (v := ?_) (a' := ?_) head_Write.a10 rfl rfl (take_ofW HT_.out HW_.out zQ) (fun _ _ _ h => h) (Or.inl ⟨by rfl, ?_⟩) hHeld ?_ ?_;rotate_left
      ·rintro w' ⟨s0, s1⟩;go_simp
       with_reducible rfl
      rotate_left
      ·simp only [zP];rfl
      refine take_ (i := 11) (N := some 44) (v := ?_) (a' := ?_) head_Write.a11 rfl rfl (take_ofW HT_.out HW_.out zQ) (fun _ _ _ h => h) (Or.inl ⟨by rfl, ?_⟩) hHeld ?_ ?_;rotate_left
      ·rintro w' ⟨s0, s1⟩;go_simp
       with_reducible rfl
      rotate_left
      ·simp only [zP];rfl
      refine one_ (i := 9) (N := some 42) head_Write.a12 rfl rfl (one_of HT_.out zQ) (by decide) (fun K hK => ?_);refine goes_ Tryz.func25 zQ rfl #[.string ((rd_T88 l0_4 x29_2).f0)] (by rfl) rfl rfl zM ?_
      with_reducible refine (head_lower.calls ((rd_T88 l0_4 x29_2).f0) t305 _ A19.out).mono ?_
      rintro e w31 ⟨rfl, hb⟩;refine ⟨_, rfl, ?_⟩;replace BK298 := zj BK298 hb;replace BK303 := zj BK303 hb;replace HB := zk2 HB GE298 GE303 hb;(try clear hb);(try clear hb2);(try clear hk);(try clear hi);refine hK.out _ _ ⟨(blk_cell BK303.out 0).trans rfl, (blk_cell BK303.out 1).trans rfl⟩ (fun hHeld => ?_);clear hK K;refine norm_ (a' := ?_) ?_ ?_;rotate_left
      ·show Act.put _ (some 42) _ = _
       simp only [zP];rfl
      refine pure_ (i := 12) (N := some 45) (v := ?_) (a' := ?_) head_Write.a13 rfl rfl (any_of HT_.out zQ) (fun _ _ _ h => h) (Or.inl ⟨by rfl, ?_⟩) ?_ ?_;rotate_left
      ·intro w';go_simp
       with_reducible rfl
      rotate_left
      ·simp only [zP];rfl
      refine pure_ (i := 13) (N := some 46) (v := ?_) (a' := ?_) head_Write.a14 rfl rfl (any_of HT_.out zQ) (fun _ _ _ h => h) (Or.inl ⟨by rfl, ?_⟩) ?_ ?_;rotate_left
      ·intro w';go_simp
       with_reducible rfl
      rotate_left
      ·simp only [zP];rfl
      refine pure_ (i := 14) (N := some 47) (v := ?_) (a' := ?_) head_Write.a15 rfl rfl (any_of HT_.out zQ) (fun _ _ _ h => h) (Or.inl ⟨by rfl, ?_⟩) ?_ ?_;rotate_left
      ·intro w';go_simp
       with_reducible rfl
      rotate_left
      ·simp only [zP];rfl
      refine pure_ (i := 15) (N := some 48) (v := ?_) (a' := ?_) head_Write.a16 rfl rfl (any_of HT_.out zQ) (fun _ _ _ h => h) (Or.inl ⟨by rfl, ?_⟩) ?_ ?_;rotate_left
      ·intro w';go_simp
       with_reducible rfl
      rotate_left
      ·simp only [zP];rfl
      refine take_ (i := 16) (N := some 49) (v := ?_) (a' := ?_) head_Write.a17 rfl rfl (take_ofW HT_.out HW_.out zQ) (fun _ _ _ h => h) (Or.inl ⟨by rfl, ?_⟩) hHeld ?_ ?_;rotate_left
      ·rintro w' ⟨s0, s1⟩;go_simp
       with_reducible rfl
      rotate_left
      ·simp only [zP];rfl
      refine one_ (i := 17) (N := some 50) head_Write.a18 rfl rfl (one_of HT_.out zQ) (by decide) (fun K hK => ?_);refine goes_ Tryz.func26 zQ rfl #[.string ((rd_T88 l0_4 x29_2).f1)] (by rfl) rfl rfl zM ?_
      with_reducible refine (head_value.calls k2 ((rd_T88 l0_4 x29_2).f1) true _ A21.out).mono ?_
      rintro e w' ⟨rfl, ⟨nd, rfl⟩⟩;refine ⟨_, rfl, ?_⟩;refine hK.out _ _ ⟨(blk_cell BK303.out 0).trans rfl, (blk_cell BK303.out 1).trans rfl⟩ (fun hHeld => ?_);clear hK K;refine norm_ (a' := ?_) ?_ ?_;rotate_left
      ·show Act.put _ (some 50) _ = _
       simp only [zP];rfl
      refine pure_ (i := 18) (N := some 51) (v := ?_) (a' := ?_) head_Write.a19 rfl rfl (any_of HT_.out zQ) (fun _ _ _ h => h) (Or.inl ⟨by rfl, ?_⟩) ?_ ?_;rotate_left
      ·intro w';go_simp
       with_reducible rfl
      rotate_left
      ·simp only [zP];rfl
      refine pure_ (i := 19) (N := some 4) (v := ?_) (a' := ?_) head_Write.a20 rfl rfl (any_of HT_.out zQ) (fun _ _ _ h => h) (Or.inl ⟨by rfl, ?_⟩) ?_ ?_;rotate_left
      ·intro w';go_simp
       with_reducible rfl
      rotate_left
      ·simp only [zP];rfl
      refine done_ (done_of HT_.out zQ) ?_;obtain ⟨hcz32_0, hcz32_1, hfz32_0, hfz32_1⟩ := zC2 BK303
      try go_wp2_with (first | ((with_reducible refine gate_callee (f := 27) rfl ?_); refine zg (some 60) Tryz.func27 #[.string ((rd_T88 l0_4 x29_2).f1)] ?_; (with_reducible refine (head_Host.calls k2 ((rd_T88 l0_4 x29_2).f1) t307 true _ ?side1 A23.out).mono ?_); (case side1 => exact ML.keep HML.out (zB2 HB GE298 GE303)); rintro e w33 ⟨rfl, hb⟩; refine ⟨_, rfl, ?_⟩; replace BK298 := zj BK298 hb; replace BK303 := zj BK303 hb; replace HB := zk2 HB GE298 GE303 hb; (try clear hb); (try clear hb2); (try clear hk); (try clear hi); obtain ⟨hcz34_0, hcz34_1, hcz34_2, hcz34_3, hcz34_4, hfz34_0, hfz34_1, hfz34_2, hfz34_3, hfz34_4⟩ := zC5 BK298))
      go_roundg k2
      case measure => have := HJ1.out; have := HK2.out; omega
      case rel => exact ⟨((t307.toList == a0_3.toList)), (wrap64 (x5_2 + 1)), (wrap64 (x29_2 + 1)), zI, zI, zI, H', ⟨by have := HJ1.out; have := HK2.out; omega⟩, ⟨zK BK298⟩, ⟨zB2 HB GE298 GE303⟩⟩
     replace c25 := zq.mpr c25;subst c25;have H1 := H; rw [zn (show ¬ (false = true) by decide)] at H1;clear H;have H := H1;clear H1;have H' := zN H;clear H;have p302 : 0 ≤ (x29_2 : Int) := zd zS;have q302 : x29_2 < (l0_4.length : Int) := zd zS;obtain ⟨ad302, e302, hx302_0, hx302_1⟩ := at_T88 HR0_4.out x29_2 p302 q302;cases e302;replace hx302_0 := (HB.out.cell (zw w _ hx302_0)).trans hx302_0;replace hx302_1 := (HB.out.cell (zw w _ hx302_1)).trans hx302_1;replace p302 := zu p302;replace q302 := zu q302
     try go_wp2_with (first | ((with_reducible refine gate_dst (N := 7) rfl ?_); (try (refine gate_guard (by rfl) ?_; dsimp only)); refine zX #[.string (⟨#[]⟩ : ByteArray), .string (⟨#[]⟩ : ByteArray)] 88 rfl ?_; intro gb303 hg w35 hbox hb; have BK303 := zN hbox; have GW303 := zY w (zB1 HB GE298) hg; have GE303 := zY w (zB1 HB GE298) hg; replace HB := zk1 HB GE298 hb; have NB298_303 := zl BK298 hg; have NB303_298 := zl' BK298 hg; replace BK298 := zj BK298 hb; clear hb hbox hg; have hnb36 := NB303_298.out; have hnc36 := NB298_303.out; obtain ⟨hcz37_0, hcz37_1, hfz37_0, hfz37_1⟩ := zC2 BK303))
     have n0_ : Aside0 (((w35.setCell ⟨gb303, 0, none⟩ (.string ((rd_T88 l0_4 x29_2).f0))).setCell ⟨gb303, 1, none⟩ (.string ((rd_T88 l0_4 x29_2).f1))).heap[gb298]? = some (.cells #[.string a0_0, .string a0_1, .string a0_2, .string a0_3, .slice (some ad302) l0_4.length c0_4] 25 (0, 0))) := ⟨zF1 BK298 NB298_303⟩;have n1_ : Aside0 (((w35.setCell ⟨gb303, 0, none⟩ (.string ((rd_T88 l0_4 x29_2).f0))).setCell ⟨gb303, 1, none⟩ (.string ((rd_T88 l0_4 x29_2).f1))).heap[gb303]? = some (.cells #[.string ((rd_T88 l0_4 x29_2).f0), .string ((rd_T88 l0_4 x29_2).f1)] 88 (0, 0))) := ⟨zF BK303⟩;have n2_ : Aside0 (Below w.heap.size w ((w35.setCell ⟨gb303, 0, none⟩ (.string ((rd_T88 l0_4 x29_2).f0))).setCell ⟨gb303, 1, none⟩ (.string ((rd_T88 l0_4 x29_2).f1)))) := ⟨zB2 HB GE298 GE303⟩;(try clear BK298);(try clear BK303);(try clear HB);generalize ((w35.setCell ⟨gb303, 0, none⟩ (.string ((rd_T88 l0_4 x29_2).f0))).setCell ⟨gb303, 1, none⟩ (.string ((rd_T88 l0_4 x29_2).f1))) = w38 at n0_ n1_ n2_ ⊢;have BK298 := n0_;have BK303 := n1_;have HB := n2_;clear n0_ n1_ n2_;replace BK298 := zN (blk_drew BK298.out);replace BK303 := zN (blk_drew BK303.out);replace HB := zN (below_drew1 HB.out);refine start_ (n := 20) (S := fun w' => w'.cell? ⟨gb303, 0, none⟩ = some (.string ((rd_T88 l0_4 x29_2).f0)) ∧ w'.cell? ⟨gb303, 1, none⟩ = some (.string ((rd_T88 l0_4 x29_2).f1))) (ds := []) head_Write.a0 zQ rfl rfl ⟨(blk_cell BK303.out 0).trans rfl, (blk_cell BK303.out 1).trans rfl⟩ (fun hHeld => ?_); refine with_tabW head_Write.tab6 head_Write.bits6 (fun HT_ HW_ => ?_);generalize w38.drew = w39 at BK298 BK303 HB hHeld ⊢;refine pure_ (i := 0) (N := some 33) (v := ?_) (a' := ?_) head_Write.a1 rfl rfl (any_of HT_.out zQ) (fun _ _ _ h => h) (Or.inl ⟨by rfl, ?_⟩) ?_ ?_;rotate_left
     ·intro w';go_simp
      with_reducible rfl
     rotate_left
     ·simp only [zP];rfl
     refine pure_ (i := 1) (N := some 34) (v := ?_) (a' := ?_) head_Write.a2 rfl rfl (any_of HT_.out zQ) (fun _ _ _ h => h) (Or.inl ⟨by rfl, ?_⟩) ?_ ?_;rotate_left
     ·intro w';go_simp
      with_reducible rfl
     rotate_left
     ·simp only [zP];rfl
     refine pure_ (i := 2) (N := some 35) (v := ?_) (a' := ?_) head_Write.a3 rfl rfl (any_of HT_.out zQ) (fun _ _ _ h => h) (Or.inl ⟨by rfl, ?_⟩) ?_ ?_;rotate_left
     ·intro w';go_simp
      with_reducible rfl
     rotate_left
     ·simp only [zP];rfl
     refine take_ (i := 3) (N := some 36) (v := ?_) (a' := ?_) head_Write.a4 rfl rfl (take_ofW HT_.out HW_.out zQ) (fun _ _ _ h => h) (Or.inl ⟨by rfl, ?_⟩) hHeld ?_ ?_;rotate_left
     ·rintro w' ⟨s0, s1⟩;go_simp
      with_reducible rfl
     rotate_left
     ·simp only [zP];rfl
     refine one_ (i := 4) (N := some 37) head_Write.a5 rfl rfl (one_of HT_.out zQ) (by decide) (fun K hK => ?_);refine goes_ Tryz.func22 zQ rfl #[.string ((rd_T88 l0_4 x29_2).f0)] (by rfl) rfl rfl zM ?_
     with_reducible refine (head_token.calls k2 ((rd_T88 l0_4 x29_2).f0) true _ A17.out).mono ?_
     rintro e w' ⟨rfl, ⟨nd, rfl⟩⟩;refine ⟨_, rfl, ?_⟩;refine hK.out _ _ ⟨(blk_cell BK303.out 0).trans rfl, (blk_cell BK303.out 1).trans rfl⟩ (fun hHeld => ?_);clear hK K;refine norm_ (a' := ?_) ?_ ?_;rotate_left
     ·show Act.put _ (some 37) _ = _
      simp only [zP];rfl
     refine pure_ (i := 5) (N := some 38) (v := ?_) (a' := ?_) head_Write.a6 rfl rfl (any_of HT_.out zQ) (fun _ _ _ h => h) (Or.inl ⟨by rfl, ?_⟩) ?_ ?_;rotate_left
     ·intro w';go_simp
      with_reducible rfl
     rotate_left
     ·simp only [zP];rfl
     refine pure_ (i := 6) (N := some 39) (v := ?_) (a' := ?_) head_Write.a7 rfl rfl (any_of HT_.out zQ) (fun _ _ _ h => h) (Or.inl ⟨by rfl, ?_⟩) ?_ ?_;rotate_left
     ·intro w';go_simp
      with_reducible rfl
     rotate_left
     ·simp only [zP];rfl
     refine pure_ (i := 7) (N := some 40) (v := ?_) (a' := ?_) head_Write.a8 rfl rfl (any_of HT_.out zQ) (fun _ _ _ h => h) (Or.inl ⟨by rfl, ?_⟩) ?_ ?_;rotate_left
     ·intro w';go_simp
      with_reducible rfl
     rotate_left
     ·simp only [zP];rfl
     refine pure_ (i := 10) (N := some 43) (v := ?_) (a' := ?_) head_Write.a9 rfl rfl (any_of HT_.out zQ) (fun _ _ _ h => h) (Or.inl ⟨by rfl, ?_⟩) ?_ ?_;rotate_left
     ·intro w';go_simp
      with_reducible rfl
     rotate_left
     ·simp only [zP];rfl
     refine take_ (i := 8) (N := some 41) (v := ?_) (a' := ?_) head_Write.a10 rfl rfl (take_ofW HT_.out HW_.out zQ) (fun _ _ _ h => h) (Or.inl ⟨by rfl, ?_⟩) hHeld ?_ ?_;rotate_left
     ·rintro w' ⟨s0, s1⟩;go_simp
      with_reducible rfl
     rotate_left
     ·simp only [zP];rfl
     refine take_ (i := 11) (N := some 44) (v := ?_) (a' := ?_) head_Write.a11 rfl rfl (take_ofW HT_.out HW_.out zQ) (fun _ _ _ h => h) (Or.inl ⟨by rfl, ?_⟩) hHeld ?_ ?_;rotate_left
     ·rintro w' ⟨s0, s1⟩;go_simp
      with_reducible rfl
     rotate_left
     ·simp only [zP];rfl
     refine one_ (i := 9) (N := some 42) head_Write.a12 rfl rfl (one_of HT_.out zQ) (by decide) (fun K hK => ?_);refine goes_ Tryz.func25 zQ rfl #[.string ((rd_T88 l0_4 x29_2).f0)] (by rfl) rfl rfl zM ?_
     with_reducible refine (head_lower.calls ((rd_T88 l0_4 x29_2).f0) t305 _ A19.out).mono ?_
     rintro e w40 ⟨rfl, hb⟩;refine ⟨_, rfl, ?_⟩;replace BK298 := zj BK298 hb;replace BK303 := zj BK303 hb;replace HB := zk2 HB GE298 GE303 hb;(try clear hb);(try clear hb2);(try clear hk);(try clear hi);refine hK.out _ _ ⟨(blk_cell BK303.out 0).trans rfl, (blk_cell BK303.out 1).trans rfl⟩ (fun hHeld => ?_);clear hK K;refine norm_ (a' := ?_) ?_ ?_;rotate_left
     ·show Act.put _ (some 42) _ = _
      simp only [zP];rfl
     refine pure_ (i := 12) (N := some 45) (v := ?_) (a' := ?_) head_Write.a13 rfl rfl (any_of HT_.out zQ) (fun _ _ _ h => h) (Or.inl ⟨by rfl, ?_⟩) ?_ ?_;rotate_left
     ·intro w';go_simp
      with_reducible rfl
     rotate_left
     ·simp only [zP];rfl
     refine pure_ (i := 13) (N := some 46) (v := ?_) (a' := ?_) head_Write.a14 rfl rfl (any_of HT_.out zQ) (fun _ _ _ h => h) (Or.inl ⟨by rfl, ?_⟩) ?_ ?_;rotate_left
     ·intro w';go_simp
      with_reducible rfl
     rotate_left
     ·simp only [zP];rfl
     refine pure_ (i := 14) (N := some 47) (v := ?_) (a' := ?_) head_Write.a15 rfl rfl (any_of HT_.out zQ) (fun _ _ _ h => h) (Or.inl ⟨by rfl, ?_⟩) ?_ ?_;rotate_left
     ·intro w';go_simp
      with_reducible rfl
     rotate_left
     ·simp only [zP];rfl
     refine pure_ (i := 15) (N := some 48) (v := ?_) (a' := ?_) head_Write.a16 rfl rfl (any_of HT_.out zQ) (fun _ _ _ h => h) (Or.inl ⟨by rfl, ?_⟩) ?_ ?_;rotate_left
     ·intro w';go_simp
      with_reducible rfl
     rotate_left
     ·simp only [zP];rfl
     refine take_ (i := 16) (N := some 49) (v := ?_) (a' := ?_) head_Write.a17 rfl rfl (take_ofW HT_.out HW_.out zQ) (fun _ _ _ h => h) (Or.inl ⟨by rfl, ?_⟩) hHeld ?_ ?_;rotate_left
     ·rintro w' ⟨s0, s1⟩;go_simp
      with_reducible rfl
     rotate_left
     ·simp only [zP];rfl
     refine one_ (i := 17) (N := some 50) head_Write.a18 rfl rfl (one_of HT_.out zQ) (by decide) (fun K hK => ?_);refine goes_ Tryz.func26 zQ rfl #[.string ((rd_T88 l0_4 x29_2).f1)] (by rfl) rfl rfl zM ?_
     with_reducible refine (head_value.calls k2 ((rd_T88 l0_4 x29_2).f1) true _ A21.out).mono ?_
     rintro e w' ⟨rfl, ⟨nd, rfl⟩⟩;refine ⟨_, rfl, ?_⟩;refine hK.out _ _ ⟨(blk_cell BK303.out 0).trans rfl, (blk_cell BK303.out 1).trans rfl⟩ (fun hHeld => ?_);clear hK K;refine norm_ (a' := ?_) ?_ ?_;rotate_left
     ·show Act.put _ (some 50) _ = _
      simp only [zP];rfl
     refine pure_ (i := 18) (N := some 51) (v := ?_) (a' := ?_) head_Write.a19 rfl rfl (any_of HT_.out zQ) (fun _ _ _ h => h) (Or.inl ⟨by rfl, ?_⟩) ?_ ?_;rotate_left
     ·intro w';go_simp
      with_reducible rfl
     rotate_left
     ·simp only [zP];rfl
     refine pure_ (i := 19) (N := some 4) (v := ?_) (a' := ?_) head_Write.a20 rfl rfl (any_of HT_.out zQ) (fun _ _ _ h => h) (Or.inl ⟨by rfl, ?_⟩) ?_ ?_;rotate_left
     ·intro w';go_simp
      with_reducible rfl
     rotate_left
     ·simp only [zP];rfl
     refine done_ (done_of HT_.out zQ) ?_;obtain ⟨hcz41_0, hcz41_1, hfz41_0, hfz41_1⟩ := zC2 BK303
     try go_wp2_with (first | ((with_reducible refine gate_callee (f := 27) rfl ?_); refine zg (some 60) Tryz.func27 #[.string ((rd_T88 l0_4 x29_2).f1)] ?_; (with_reducible refine (head_Host.calls k2 ((rd_T88 l0_4 x29_2).f1) t307 false _ ?side1 A23.out).mono ?_); (case side1 => exact ML.keep HML.out (zB2 HB GE298 GE303)); rintro e w42 ⟨rfl, hb⟩; refine ⟨_, rfl, ?_⟩; replace BK298 := zj BK298 hb; replace BK303 := zj BK303 hb; replace HB := zk2 HB GE298 GE303 hb; (try clear hb); (try clear hb2); (try clear hk); (try clear hi)))
     go_roundg k2
     case measure => have := HJ1.out; have := HK2.out; omega
     case rel => exact ⟨(false), (wrap64 (x5_2 + 1)), (wrap64 (x29_2 + 1)), zI, zI, zI, H', ⟨by have := HJ1.out; have := HK2.out; omega⟩, ⟨zK BK298⟩, ⟨zB2 HB GE298 GE303⟩⟩

theorem head_Write.calls (k : Nat) (a0_0 : ByteArray) (a0_1 : ByteArray) (a0_2 : ByteArray) (a0_3 : ByteArray) (A0_4 : Option Addr) (c0_4 : Nat) (l0_4 : List (S88)) (r1 : List Int) (r2 : Int) (w : World) (hml : ML w) (hr0_4 : Kd.C k88 w A0_4 l0_4.length l0_4) (hc0_4 : l0_4.length ≤ c0_4) (h : head_Write.f k a0_0 a0_1 a0_2 a0_3 l0_4 = some (r1, r2)) :
    Calls Tryz.prog 10 #[.agg #[.string a0_0, .string a0_1, .string a0_2, .string a0_3, .slice A0_4 l0_4.length c0_4]] w fun e w' => ∃ v0_ : Value, e = .returned (.tuple #[v0_, .int .i64 r2]) ∧ Kd.V (Kd.int .u8) 5 w' w.heap.size (fun k_ => (w.heap.size ≤ k_)) v0_ r1 ∧ Below w.heap.size w w' :=
  (head_Write.calls0 k a0_0 a0_1 a0_2 a0_3 A0_4 c0_4 l0_4 r1 r2 w hml hr0_4 hc0_4 h).mono fun _ _ h => by
    obtain ⟨v, h1, h2, h3⟩ := h;exact ⟨v, h1, Yd.R_V h2 (fun _ hk => hk), h3⟩

end Go.Proofs.YtpigfccpogmeaaaGreatDoor.S
end
