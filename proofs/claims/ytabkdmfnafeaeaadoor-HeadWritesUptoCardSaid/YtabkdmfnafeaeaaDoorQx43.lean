-- Laid by lay.py, a program of this session's, out of the translation (the kit's printer with additions of ours). Lean checks it.
import Derived.Test.YtabkdmfnafeaeaaDoorQx0
import Derived.Test.YtabkdmfnafeaeaaDoorQm1
namespace Go.Proofs.YtabkdmfnafeaeaaDoor.Q
open Go.RowKit Go.Proofs.YtabkdmfnafeaeaaDoorW.PrintWords Go.Proofs.YtabkdmfnafeaeaaDoorW.PrintLast Go.Proofs.YtabkdmfnafeaeaaDoorW.PrintMore
attribute [local go_sem] max2_int min2_int max_two min_two max_three min_three max_four min_four   -- for this text's walks alone
attribute [local go_sem] fbin_eql fbin_neq fbin_lss fbin_leq fbin_gtr fbin_geq frun_add frun_sub frun_mul frun_quo frun_store fun_neg fcv_int fcv_same fb92 fb116
set_option linter.unusedVariables false
set_option linter.unusedSimpArgs false

/-! ### tollgateref09_Write: function 22 -/
mutual
def tollgateref09_Write.j0 : Nat → Bool → ByteArray → ByteArray → ByteArray → ByteArray → List (S38) → Option (List Int × Int)
 | 0, _, _, _, _, _, _ => none
 | k + 1, x25, x403000, x403001, x403002, x403003, x403004 => if x25 = true then (some (([] : List Int), 4)) else (if x403000.size + 1 ≤ 9223372036854775807 then (if (x403000 ++ (⟨#[32]⟩ : ByteArray)).size + x403001.size ≤ 9223372036854775807 then (if x403002.toList = ([] : List UInt8) then (tollgateref09_Write.j1 k ((x403000 ++ (⟨#[32]⟩ : ByteArray)) ++ x403001) x403000 x403001 x403002 x403003 x403004) else (if 1 + x403002.size ≤ 9223372036854775807 then (if ((x403000 ++ (⟨#[32]⟩ : ByteArray)) ++ x403001).size + ((⟨#[63]⟩ : ByteArray) ++ x403002).size ≤ 9223372036854775807 then (tollgateref09_Write.j1 k (((x403000 ++ (⟨#[32]⟩ : ByteArray)) ++ x403001) ++ ((⟨#[63]⟩ : ByteArray) ++ x403002)) x403000 x403001 x403002 x403003 x403004) else (none)) else (none))) else (none)) else (none))
def tollgateref09_Write.j1 : Nat → ByteArray → ByteArray → ByteArray → ByteArray → ByteArray → List (S38) → Option (List Int × Int)
 | 0, _, _, _, _, _, _ => none
 | k + 1, x4, x403000, x403001, x403002, x403003, x403004 => if x4.size + 11 ≤ 9223372036854775807 then (tollgateref09_Write.l0 k (x4 ++ (⟨#[32, 72, 84, 84, 80, 47, 49, 46, 49, 13, 10]⟩ : ByteArray)) 0 0 x403000 x403001 x403002 x403003 x403004) else (none)
def tollgateref09_Write.l0 : Nat → ByteArray → Int → Int → ByteArray → ByteArray → ByteArray → ByteArray → List (S38) → Option (List Int × Int)
 | 0, _, _, _, _, _, _, _, _ => none
 | k + 1, x4, x5, x6, x403000, x403001, x403002, x403003, x403004 => if x6 < (x403004.length : Int) then (if 0 ≤ x6 then ((tollgateref09_Token.f k ((rd_T38 x403004 x6).f0)).bind fun t408 => (if t408 = true then ((tollgateref09_Lower.f k ((rd_T38 x403004 x6).f0)).bind fun t409 => (if t409.toList = ((rd_T38 x403004 x6).f0).toList then ((tollgateref09_Value.f k ((rd_T38 x403004 x6).f1)).bind fun t410 => (tollgateref09_Write.j3 k x4 x5 x6 (!t410) x403000 x403001 x403002 x403003 x403004 ((rd_T38 x403004 x6).f0) ((rd_T38 x403004 x6).f1))) else (tollgateref09_Write.j3 k x4 x5 x6 true x403000 x403001 x403002 x403003 x403004 ((rd_T38 x403004 x6).f0) ((rd_T38 x403004 x6).f1)))) else (tollgateref09_Write.j3 k x4 x5 x6 true x403000 x403001 x403002 x403003 x403004 ((rd_T38 x403004 x6).f0) ((rd_T38 x403004 x6).f1)))) else (none)) else (if x4.size + 2 ≤ 9223372036854775807 then (if x5 = 1 then (if (x403004.length : Int) > 32 then (some (([] : List Int), 6)) else (if ((x4 ++ (⟨#[13, 10]⟩ : ByteArray)).size : Int) > 2048 then (some (([] : List Int), 6)) else (if (x4 ++ (⟨#[13, 10]⟩ : ByteArray)).size ≤ 9223372036854775807 then (some ((bytesOf (x4 ++ (⟨#[13, 10]⟩ : ByteArray))), 0)) else (none)))) else (some (([] : List Int), 4))) else (none))
def tollgateref09_Write.j3 : Nat → ByteArray → Int → Int → Bool → ByteArray → ByteArray → ByteArray → ByteArray → List (S38) → ByteArray → ByteArray → Option (List Int × Int)
 | 0, _, _, _, _, _, _, _, _, _, _, _ => none
 | k + 1, x4, x5, x6, x71, x403000, x403001, x403002, x403003, x403004, x408000, x408001 => if x71 = true then (some (([] : List Int), 4)) else (if x408000.toList = ([104, 111, 115, 116] : List UInt8) then ((tollgateref09_Host.f k x408001).bind fun bt411 => (if bt411.2 = true then (if bt411.1.toList = x403003.toList then (if x408000.size + 2 ≤ 9223372036854775807 then (if (x408000 ++ (⟨#[58, 32]⟩ : ByteArray)).size + x408001.size ≤ 9223372036854775807 then (if ((x408000 ++ (⟨#[58, 32]⟩ : ByteArray)) ++ x408001).size + 2 ≤ 9223372036854775807 then (if x4.size + (((x408000 ++ (⟨#[58, 32]⟩ : ByteArray)) ++ x408001) ++ (⟨#[13, 10]⟩ : ByteArray)).size ≤ 9223372036854775807 then (tollgateref09_Write.l0 k (x4 ++ (((x408000 ++ (⟨#[58, 32]⟩ : ByteArray)) ++ x408001) ++ (⟨#[13, 10]⟩ : ByteArray))) (wrap64 (x5 + 1)) (wrap64 (x6 + 1)) x403000 x403001 x403002 x403003 x403004) else (none)) else (none)) else (none)) else (none)) else (some (([] : List Int), 4))) else (some (([] : List Int), 4)))) else (if x408000.size + 2 ≤ 9223372036854775807 then (if (x408000 ++ (⟨#[58, 32]⟩ : ByteArray)).size + x408001.size ≤ 9223372036854775807 then (if ((x408000 ++ (⟨#[58, 32]⟩ : ByteArray)) ++ x408001).size + 2 ≤ 9223372036854775807 then (if x4.size + (((x408000 ++ (⟨#[58, 32]⟩ : ByteArray)) ++ x408001) ++ (⟨#[13, 10]⟩ : ByteArray)).size ≤ 9223372036854775807 then (tollgateref09_Write.l0 k (x4 ++ (((x408000 ++ (⟨#[58, 32]⟩ : ByteArray)) ++ x408001) ++ (⟨#[13, 10]⟩ : ByteArray))) x5 (wrap64 (x6 + 1)) x403000 x403001 x403002 x403003 x403004) else (none)) else (none)) else (none)) else (none)))
end
def tollgateref09_Write.f (k : Nat) (a0_0 : ByteArray) (a0_1 : ByteArray) (a0_2 : ByteArray) (a0_3 : ByteArray) (l0_4 : List (S38)) : Option (List Int × Int) := (tollgateref09_Token.f k a0_0).bind fun t403 => (if t403 = true then ((tollgateref09_Path.f k a0_1).bind fun t404 => (if t404 = true then ((tollgateref09_Query.f k a0_2).bind fun t405 => (tollgateref09_Write.j0 k (!t405) a0_0 a0_1 a0_2 a0_3 l0_4)) else (tollgateref09_Write.j0 k true a0_0 a0_1 a0_2 a0_3 l0_4))) else (tollgateref09_Write.j0 k true a0_0 a0_1 a0_2 a0_3 l0_4))
theorem tollgateref09_Write.mono_l : ∀ k, (∀ y0 y1 y2 y3 y4 y5, LeO (tollgateref09_Write.j0 k y0 y1 y2 y3 y4 y5) (tollgateref09_Write.j0 (k + 1) y0 y1 y2 y3 y4 y5)) ∧ (∀ y0 y1 y2 y3 y4 y5, LeO (tollgateref09_Write.j1 k y0 y1 y2 y3 y4 y5) (tollgateref09_Write.j1 (k + 1) y0 y1 y2 y3 y4 y5)) ∧ (∀ y0 y1 y2 y3 y4 y5 y6 y7, LeO (tollgateref09_Write.l0 k y0 y1 y2 y3 y4 y5 y6 y7) (tollgateref09_Write.l0 (k + 1) y0 y1 y2 y3 y4 y5 y6 y7)) ∧ (∀ y0 y1 y2 y3 y4 y5 y6 y7 y8 y9 y10, LeO (tollgateref09_Write.j3 k y0 y1 y2 y3 y4 y5 y6 y7 y8 y9 y10) (tollgateref09_Write.j3 (k + 1) y0 y1 y2 y3 y4 y5 y6 y7 y8 y9 y10))
 | 0 => ⟨fun _ _ _ _ _ _ r h => by simp [tollgateref09_Write.j0] at h, fun _ _ _ _ _ _ r h => by simp [tollgateref09_Write.j1] at h, fun _ _ _ _ _ _ _ _ r h => by simp [tollgateref09_Write.l0] at h, fun _ _ _ _ _ _ _ _ _ _ _ r h => by simp [tollgateref09_Write.j3] at h⟩
 | k + 1 => by
  obtain ⟨ih0, ih1, ih2, ih3⟩ := tollgateref09_Write.mono_l k
  refine ⟨?_, ?_, ?_, ?_⟩
  ·intro y0 y1 y2 y3 y4 y5
   unfold tollgateref09_Write.j0
   repeat' first
   | (with_reducible exact ih0 _ _ _ _ _ _)
   | (with_reducible exact ih1 _ _ _ _ _ _)
   | (with_reducible exact ih2 _ _ _ _ _ _ _ _)
   | (with_reducible exact ih3 _ _ _ _ _ _ _ _ _ _ _)
   | (with_reducible exact tollgateref09_Host.mono _ _)
   | (with_reducible exact tollgateref09_Lower.mono _ _)
   | (with_reducible exact tollgateref09_Path.mono _ _)
   | (with_reducible exact tollgateref09_Query.mono _ _)
   | (with_reducible exact tollgateref09_Token.mono _ _)
   | (with_reducible exact tollgateref09_Value.mono _ _)
   | (with_reducible exact LeO.refl _)
   | (with_reducible exact LeO.none _)
   | (with_reducible refine LeO.ite ?_ ?_)
   | (with_reducible refine LeO.bind ?_ (fun _ => ?_))
   | exact ih0 _ _ _ _ _ _
   | exact ih1 _ _ _ _ _ _
   | exact ih2 _ _ _ _ _ _ _ _
   | exact ih3 _ _ _ _ _ _ _ _ _ _ _
   | exact tollgateref09_Host.mono _ _
   | exact tollgateref09_Lower.mono _ _
   | exact tollgateref09_Path.mono _ _
   | exact tollgateref09_Query.mono _ _
   | exact tollgateref09_Token.mono _ _
   | exact tollgateref09_Value.mono _ _
   | exact LeO.none _
   | refine LeO.ite ?_ ?_
   | refine LeO.bind ?_ (fun _ => ?_)
  ·intro y0 y1 y2 y3 y4 y5
   unfold tollgateref09_Write.j1
   repeat' first
   | (with_reducible exact ih0 _ _ _ _ _ _)
   | (with_reducible exact ih1 _ _ _ _ _ _)
   | (with_reducible exact ih2 _ _ _ _ _ _ _ _)
   | (with_reducible exact ih3 _ _ _ _ _ _ _ _ _ _ _)
   | (with_reducible exact tollgateref09_Host.mono _ _)
   | (with_reducible exact tollgateref09_Lower.mono _ _)
   | (with_reducible exact tollgateref09_Path.mono _ _)
   | (with_reducible exact tollgateref09_Query.mono _ _)
   | (with_reducible exact tollgateref09_Token.mono _ _)
   | (with_reducible exact tollgateref09_Value.mono _ _)
   | (with_reducible exact LeO.refl _)
   | (with_reducible exact LeO.none _)
   | (with_reducible refine LeO.ite ?_ ?_)
   | (with_reducible refine LeO.bind ?_ (fun _ => ?_))
   | exact ih0 _ _ _ _ _ _
   | exact ih1 _ _ _ _ _ _
   | exact ih2 _ _ _ _ _ _ _ _
   | exact ih3 _ _ _ _ _ _ _ _ _ _ _
   | exact tollgateref09_Host.mono _ _
   | exact tollgateref09_Lower.mono _ _
   | exact tollgateref09_Path.mono _ _
   | exact tollgateref09_Query.mono _ _
   | exact tollgateref09_Token.mono _ _
   | exact tollgateref09_Value.mono _ _
   | exact LeO.none _
   | refine LeO.ite ?_ ?_
   | refine LeO.bind ?_ (fun _ => ?_)
  ·intro y0 y1 y2 y3 y4 y5 y6 y7
   unfold tollgateref09_Write.l0
   repeat' first
   | (with_reducible exact ih0 _ _ _ _ _ _)
   | (with_reducible exact ih1 _ _ _ _ _ _)
   | (with_reducible exact ih2 _ _ _ _ _ _ _ _)
   | (with_reducible exact ih3 _ _ _ _ _ _ _ _ _ _ _)
   | (with_reducible exact tollgateref09_Host.mono _ _)
   | (with_reducible exact tollgateref09_Lower.mono _ _)
   | (with_reducible exact tollgateref09_Path.mono _ _)
   | (with_reducible exact tollgateref09_Query.mono _ _)
   | (with_reducible exact tollgateref09_Token.mono _ _)
   | (with_reducible exact tollgateref09_Value.mono _ _)
   | (with_reducible exact LeO.refl _)
   | (with_reducible exact LeO.none _)
   | (with_reducible refine LeO.ite ?_ ?_)
   | (with_reducible refine LeO.bind ?_ (fun _ => ?_))
   | exact ih0 _ _ _ _ _ _
   | exact ih1 _ _ _ _ _ _
   | exact ih2 _ _ _ _ _ _ _ _
   | exact ih3 _ _ _ _ _ _ _ _ _ _ _
   | exact tollgateref09_Host.mono _ _
   | exact tollgateref09_Lower.mono _ _
   | exact tollgateref09_Path.mono _ _
   | exact tollgateref09_Query.mono _ _
   | exact tollgateref09_Token.mono _ _
   | exact tollgateref09_Value.mono _ _
   | exact LeO.none _
   | refine LeO.ite ?_ ?_
   | refine LeO.bind ?_ (fun _ => ?_)
  ·intro y0 y1 y2 y3 y4 y5 y6 y7 y8 y9 y10
   unfold tollgateref09_Write.j3
   repeat' first
   | (with_reducible exact ih0 _ _ _ _ _ _)
   | (with_reducible exact ih1 _ _ _ _ _ _)
   | (with_reducible exact ih2 _ _ _ _ _ _ _ _)
   | (with_reducible exact ih3 _ _ _ _ _ _ _ _ _ _ _)
   | (with_reducible exact tollgateref09_Host.mono _ _)
   | (with_reducible exact tollgateref09_Lower.mono _ _)
   | (with_reducible exact tollgateref09_Path.mono _ _)
   | (with_reducible exact tollgateref09_Query.mono _ _)
   | (with_reducible exact tollgateref09_Token.mono _ _)
   | (with_reducible exact tollgateref09_Value.mono _ _)
   | (with_reducible exact LeO.refl _)
   | (with_reducible exact LeO.none _)
   | (with_reducible refine LeO.ite ?_ ?_)
   | (with_reducible refine LeO.bind ?_ (fun _ => ?_))
   | exact ih0 _ _ _ _ _ _
   | exact ih1 _ _ _ _ _ _
   | exact ih2 _ _ _ _ _ _ _ _
   | exact ih3 _ _ _ _ _ _ _ _ _ _ _
   | exact tollgateref09_Host.mono _ _
   | exact tollgateref09_Lower.mono _ _
   | exact tollgateref09_Path.mono _ _
   | exact tollgateref09_Query.mono _ _
   | exact tollgateref09_Token.mono _ _
   | exact tollgateref09_Value.mono _ _
   | exact LeO.none _
   | refine LeO.ite ?_ ?_
   | refine LeO.bind ?_ (fun _ => ?_)
theorem tollgateref09_Write.mono : ∀ a0 a1 a2 a3 a4 k, LeO (tollgateref09_Write.f k a0 a1 a2 a3 a4) (tollgateref09_Write.f (k + 1) a0 a1 a2 a3 a4) := by
 intro a0 a1 a2 a3 a4 k
 obtain ⟨ih0, ih1, ih2, ih3⟩ := tollgateref09_Write.mono_l k
 unfold tollgateref09_Write.f
 repeat' first
   | (with_reducible exact ih0 _ _ _ _ _ _)
   | (with_reducible exact ih1 _ _ _ _ _ _)
   | (with_reducible exact ih2 _ _ _ _ _ _ _ _)
   | (with_reducible exact ih3 _ _ _ _ _ _ _ _ _ _ _)
   | (with_reducible exact tollgateref09_Host.mono _ _)
   | (with_reducible exact tollgateref09_Lower.mono _ _)
   | (with_reducible exact tollgateref09_Path.mono _ _)
   | (with_reducible exact tollgateref09_Query.mono _ _)
   | (with_reducible exact tollgateref09_Token.mono _ _)
   | (with_reducible exact tollgateref09_Value.mono _ _)
   | (with_reducible exact LeO.refl _)
   | (with_reducible exact LeO.none _)
   | (with_reducible refine LeO.ite ?_ ?_)
   | (with_reducible refine LeO.bind ?_ (fun _ => ?_))
   | exact ih0 _ _ _ _ _ _
   | exact ih1 _ _ _ _ _ _
   | exact ih2 _ _ _ _ _ _ _ _
   | exact ih3 _ _ _ _ _ _ _ _ _ _ _
   | exact tollgateref09_Host.mono _ _
   | exact tollgateref09_Lower.mono _ _
   | exact tollgateref09_Path.mono _ _
   | exact tollgateref09_Query.mono _ _
   | exact tollgateref09_Token.mono _ _
   | exact tollgateref09_Value.mono _ _
   | exact LeO.none _
   | refine LeO.ite ?_ ?_
   | refine LeO.bind ?_ (fun _ => ?_)
def tollgateref09_Write.T12 : Bool × List (List Nat × List Nat) := (true, [([], []), ([0], [0]), ([1], [1]), ([2], [2]), ([3, 2], [3]), ([4], [4]), ([5, 4], [4, 5]), ([6, 4, 4], [4, 6]), ([4], [4]), ([8, 4], [4, 8]), ([7, 9, 4], [4, 7, 9]), ([4, 10], [4, 10]), ([11, 7], [11]), ([12], [12]), ([13, 12], [12, 13]), ([14, 12, 12], [12, 14]), ([15, 12], [12, 15]), ([12, 16], [12, 16])])
def tollgateref09_Write.B12 : List Nat := [0, 1, 3, 7, 15, 31, 63, 127, 31, 287, 1023, 2047, 4095, 8191, 16383, 32767, 65535, 131071]
theorem tollgateref09_Write.tab12 : rtab .any (opsOf Tryd.f22 12) = tollgateref09_Write.T12 := by kernel_rfl
theorem tollgateref09_Write.bits12 : waitsOk tollgateref09_Write.T12.2 tollgateref09_Write.B12 = true := by kernel_rfl
set_option maxHeartbeats 8000000 in
set_option maxRecDepth 100000 in
theorem tollgateref09_Write.calls (k : Nat) (a0_0 : ByteArray) (a0_1 : ByteArray) (a0_2 : ByteArray) (a0_3 : ByteArray) (A0_4 : Option Addr) (c0_4 : Nat) (l0_4 : List (S38)) (r1 : List Int) (r2 : Int) (w : World) (hr0_4 : Kd.C k38 w A0_4 l0_4.length l0_4) (hc0_4 : l0_4.length ≤ c0_4) (h : tollgateref09_Write.f k a0_0 a0_1 a0_2 a0_3 l0_4 = some (r1, r2)) :
  Calls Tryd.prog 22 #[.agg #[.string a0_0, .string a0_1, .string a0_2, .string a0_3, .slice A0_4 l0_4.length c0_4]] w fun e w' => ∃ v0_ : Value, e = .returned (.tuple #[v0_, .int .i64 r2]) ∧ Kd.V (Kd.int .u8) 5 w' w.heap.size (fun k_ => (w.heap.size ≤ k_)) v0_ r1 ∧ Below w.heap.size w w' := by
 have kcs9 := fun (w_ : World) (s_ : ByteArray) => Lib.run_convert_string_bytes (P := Tryd.prog) w_ 9 22 5 s_ Tryd.underlying9 Tryd.underlying22 Tryd.underlying5
 have hu25 := Tryd.underlying25
 have hu38 := Tryd.underlying38
 have HR0_4 := Aside0.mk hr0_4
 have HC0_4 := Aside0.mk hc0_4
 clear hr0_4 hc0_4
 have HB := Aside0.mk (Below.refl w.heap.size w)
 have H : ((tollgateref09_Token.f k a0_0).bind fun t403 => (if t403 = true then ((tollgateref09_Path.f k a0_1).bind fun t404 => (if t404 = true then ((tollgateref09_Query.f k a0_2).bind fun t405 => (tollgateref09_Write.j0 k (!t405) a0_0 a0_1 a0_2 a0_3 l0_4)) else (tollgateref09_Write.j0 k true a0_0 a0_1 a0_2 a0_3 l0_4))) else (tollgateref09_Write.j0 k true a0_0 a0_1 a0_2 a0_3 l0_4))) = some (r1, r2) := h
 clear h
 have HC2 := Aside0.mk H
 clear H
 go_enter Tryd.func22, Tryd.ntmps22
 go_upto_region 1 with (first | ((with_reducible refine gate_dst (N := 1) rfl ?_); (try (refine gate_guard (by rfl) ?_; dsimp only)); refine box_event ?hg (N := 1) ?hd (cs := #[.string a0_0, .string a0_1, .string a0_2, .string a0_3, .slice A0_4 l0_4.length c0_4]) (t := 25) ?hr ?_; (case hd => rfl); (case hg => rfl); (case hr => first | (go_simp; done) | (go_simp; rfl)); intro gb402 hg w3 hbox hb; have n0_ := Aside0.mk (below_step (by repeat (first | (with_reducible first | exact HB.out | apply below_alloc | apply pw_below_drewN | apply below_drew1) | exact HB.out)) hb); have n1_ := Aside0.mk (hbox); have n2_ := Aside0.mk ((by rw [hg]; exact (below_size (by repeat (first | (with_reducible first | exact HB.out | apply below_alloc | apply pw_below_drewN | apply below_drew1) | exact HB.out))) : w.heap.size ≤ gb402)); have n3_ := Aside0.mk ((by rw [hg]; exact (below_size (by repeat (first | (with_reducible first | exact HB.out | apply below_alloc | apply pw_below_drewN | apply below_drew1) | exact HB.out))) : w.heap.size ≤ gb402)); clear HB; have HB := n0_; have BK402 := n1_; have GW402 := n2_; have GE402 := n3_; clear n0_ n1_ n2_ n3_; clear hb hbox hg))
 (try simp only [Act.put, List.setIfInBounds_toArray, List.set_cons_zero, List.set_cons_succ])
 go_cut [25] (fun v25 wc => ∃ (kq : Nat) (x25_1 : Bool), v25 = .bool x25_1 ∧ Aside0 (tollgateref09_Write.j0 kq x25_1 a0_0 a0_1 a0_2 a0_3 l0_4 = some (r1, r2)) ∧ Aside0 (kq ≤ k) ∧ Aside0 (wc.heap[gb402]? = some (.cells #[.string a0_0, .string a0_1, .string a0_2, .string a0_3, (.slice A0_4 l0_4.length c0_4)] 25 (0, 0))) ∧ Aside0 (Below w.heap.size w wc))
 case first =>
  have H := HC2.out
  clear HC2
  replace H := Option.bind_eq_some_iff.mp H
  obtain ⟨t403, A40, H⟩ := H
  replace H : (if t403 = true then ((tollgateref09_Path.f k a0_1).bind fun t404 => (if t404 = true then ((tollgateref09_Query.f k a0_2).bind fun t405 => (tollgateref09_Write.j0 k (!t405) a0_0 a0_1 a0_2 a0_3 l0_4)) else (tollgateref09_Write.j0 k true a0_0 a0_1 a0_2 a0_3 l0_4))) else (tollgateref09_Write.j0 k true a0_0 a0_1 a0_2 a0_3 l0_4)) = some (r1, r2) := H
  have A4 := Aside0.mk A40
  clear A40
  by_cases c5 : t403 = true
  ·subst c5
   have H1 : ((tollgateref09_Path.f k a0_1).bind fun t404 => (if t404 = true then ((tollgateref09_Query.f k a0_2).bind fun t405 => (tollgateref09_Write.j0 k (!t405) a0_0 a0_1 a0_2 a0_3 l0_4)) else (tollgateref09_Write.j0 k true a0_0 a0_1 a0_2 a0_3 l0_4))) = some (r1, r2) := by rw [if_pos rfl] at H; exact H
   clear H
   have H := H1
   clear H1
   replace H := Option.bind_eq_some_iff.mp H
   obtain ⟨t404, A60, H⟩ := H
   replace H : (if t404 = true then ((tollgateref09_Query.f k a0_2).bind fun t405 => (tollgateref09_Write.j0 k (!t405) a0_0 a0_1 a0_2 a0_3 l0_4)) else (tollgateref09_Write.j0 k true a0_0 a0_1 a0_2 a0_3 l0_4)) = some (r1, r2) := H
   have A6 := Aside0.mk A60
   clear A60
   by_cases c7 : t404 = true
   ·subst c7
    have H1 : ((tollgateref09_Query.f k a0_2).bind fun t405 => (tollgateref09_Write.j0 k (!t405) a0_0 a0_1 a0_2 a0_3 l0_4)) = some (r1, r2) := by rw [if_pos rfl] at H; exact H
    clear H
    have H := H1
    clear H1
    replace H := Option.bind_eq_some_iff.mp H
    obtain ⟨t405, A80, H⟩ := H
    replace H : (tollgateref09_Write.j0 k (!t405) a0_0 a0_1 a0_2 a0_3 l0_4) = some (r1, r2) := H
    have A8 := Aside0.mk A80
    clear A80
    have H' := Aside0.mk H
    clear H
    have hcz9_0 : w3.cell? ⟨gb402, 0, none⟩ = some (.string a0_0) := (blk_cell BK402.out 0).trans rfl
    have hcz9_1 : w3.cell? ⟨gb402, 1, none⟩ = some (.string a0_1) := (blk_cell BK402.out 1).trans rfl
    have hcz9_2 : w3.cell? ⟨gb402, 2, none⟩ = some (.string a0_2) := (blk_cell BK402.out 2).trans rfl
    have hcz9_3 : w3.cell? ⟨gb402, 3, none⟩ = some (.string a0_3) := (blk_cell BK402.out 3).trans rfl
    have hcz9_4 : w3.cell? ⟨gb402, 4, none⟩ = some (.slice A0_4 l0_4.length c0_4) := (blk_cell BK402.out 4).trans rfl
    have hfz9_0 := blk_frozen BK402.out 0
    have hfz9_1 := blk_frozen BK402.out 1
    have hfz9_2 := blk_frozen BK402.out 2
    have hfz9_3 := blk_frozen BK402.out 3
    have hfz9_4 := blk_frozen BK402.out 4
    go_wp2_with (first | ((with_reducible refine gate_callee (f := 46) rfl ?_); refine goesL_ (some 12) rfl rfl Tryd.func46 (by kernel_rfl) rfl #[.string a0_0] rfl (by (try simp only [List.map_toArray, List.map_cons, List.map_nil]); first | done | rfl | (simp only [List.length_drop, List.length_take]; rfl)) ?_; (with_reducible refine (tollgateref09_Token.calls k a0_0 true _ A4.out).mono ?_); rintro e w' ⟨rfl, ⟨nd, rfl⟩⟩; refine ⟨_, rfl, ?_⟩) | (go_at_call 19; (with_reducible refine (tollgateref09_Path.calls k a0_1 true _ A6.out).mono ?_); rintro e w' ⟨rfl, ⟨nd, rfl⟩⟩) | (go_at_call 20; (with_reducible refine (tollgateref09_Query.calls k a0_2 t405 _ A8.out).mono ?_); rintro e w' ⟨rfl, ⟨nd, rfl⟩⟩))
    go_meet
    case rel => exact ⟨_, (!t405), (by first | rfl | (simp; done) | (simp [*]; done)), H', ⟨by first | omega | exact Nat.le_refl _⟩, ⟨by (with_reducible repeat (first | refine blk_drewN ?_ _ | refine blk_drew ?_ | refine blk_alloc ?_ _)); exact BK402.out⟩, ⟨by repeat (first | (with_reducible first | exact HB.out | apply below_alloc | apply pw_below_drewN | apply below_drew1 | refine below_set ?_ GE402.out) | exact HB.out)⟩⟩
   ·replace c7 := Bool.eq_false_iff.mpr c7
    subst c7
    have H1 : (tollgateref09_Write.j0 k true a0_0 a0_1 a0_2 a0_3 l0_4) = some (r1, r2) := by rw [if_neg (show ¬ (false = true) by decide)] at H; exact H
    clear H
    have H := H1
    clear H1
    have H' := Aside0.mk H
    clear H
    have hcz10_0 : w3.cell? ⟨gb402, 0, none⟩ = some (.string a0_0) := (blk_cell BK402.out 0).trans rfl
    have hcz10_1 : w3.cell? ⟨gb402, 1, none⟩ = some (.string a0_1) := (blk_cell BK402.out 1).trans rfl
    have hcz10_2 : w3.cell? ⟨gb402, 2, none⟩ = some (.string a0_2) := (blk_cell BK402.out 2).trans rfl
    have hcz10_3 : w3.cell? ⟨gb402, 3, none⟩ = some (.string a0_3) := (blk_cell BK402.out 3).trans rfl
    have hcz10_4 : w3.cell? ⟨gb402, 4, none⟩ = some (.slice A0_4 l0_4.length c0_4) := (blk_cell BK402.out 4).trans rfl
    have hfz10_0 := blk_frozen BK402.out 0
    have hfz10_1 := blk_frozen BK402.out 1
    have hfz10_2 := blk_frozen BK402.out 2
    have hfz10_3 := blk_frozen BK402.out 3
    have hfz10_4 := blk_frozen BK402.out 4
    go_wp2_with (first | ((with_reducible refine gate_callee (f := 46) rfl ?_); refine goesL_ (some 12) rfl rfl Tryd.func46 (by kernel_rfl) rfl #[.string a0_0] rfl (by (try simp only [List.map_toArray, List.map_cons, List.map_nil]); first | done | rfl | (simp only [List.length_drop, List.length_take]; rfl)) ?_; (with_reducible refine (tollgateref09_Token.calls k a0_0 true _ A4.out).mono ?_); rintro e w' ⟨rfl, ⟨nd, rfl⟩⟩; refine ⟨_, rfl, ?_⟩) | (go_at_call 19; (with_reducible refine (tollgateref09_Path.calls k a0_1 false _ A6.out).mono ?_); rintro e w' ⟨rfl, ⟨nd, rfl⟩⟩))
    go_meet
    case rel => exact ⟨_, (true), (by first | rfl | (simp; done) | (simp [*]; done)), H', ⟨by first | omega | exact Nat.le_refl _⟩, ⟨by (with_reducible repeat (first | refine blk_drewN ?_ _ | refine blk_drew ?_ | refine blk_alloc ?_ _)); exact BK402.out⟩, ⟨by repeat (first | (with_reducible first | exact HB.out | apply below_alloc | apply pw_below_drewN | apply below_drew1 | refine below_set ?_ GE402.out) | exact HB.out)⟩⟩
  ·replace c5 := Bool.eq_false_iff.mpr c5
   subst c5
   have H1 : (tollgateref09_Write.j0 k true a0_0 a0_1 a0_2 a0_3 l0_4) = some (r1, r2) := by rw [if_neg (show ¬ (false = true) by decide)] at H; exact H
   clear H
   have H := H1
   clear H1
   have H' := Aside0.mk H
   clear H
   have hcz11_0 : w3.cell? ⟨gb402, 0, none⟩ = some (.string a0_0) := (blk_cell BK402.out 0).trans rfl
   have hcz11_1 : w3.cell? ⟨gb402, 1, none⟩ = some (.string a0_1) := (blk_cell BK402.out 1).trans rfl
   have hcz11_2 : w3.cell? ⟨gb402, 2, none⟩ = some (.string a0_2) := (blk_cell BK402.out 2).trans rfl
   have hcz11_3 : w3.cell? ⟨gb402, 3, none⟩ = some (.string a0_3) := (blk_cell BK402.out 3).trans rfl
   have hcz11_4 : w3.cell? ⟨gb402, 4, none⟩ = some (.slice A0_4 l0_4.length c0_4) := (blk_cell BK402.out 4).trans rfl
   have hfz11_0 := blk_frozen BK402.out 0
   have hfz11_1 := blk_frozen BK402.out 1
   have hfz11_2 := blk_frozen BK402.out 2
   have hfz11_3 := blk_frozen BK402.out 3
   have hfz11_4 := blk_frozen BK402.out 4
   go_wp2_with (first | ((with_reducible refine gate_callee (f := 46) rfl ?_); refine goesL_ (some 12) rfl rfl Tryd.func46 (by kernel_rfl) rfl #[.string a0_0] rfl (by (try simp only [List.map_toArray, List.map_cons, List.map_nil]); first | done | rfl | (simp only [List.length_drop, List.length_take]; rfl)) ?_; (with_reducible refine (tollgateref09_Token.calls k a0_0 false _ A4.out).mono ?_); rintro e w' ⟨rfl, ⟨nd, rfl⟩⟩; refine ⟨_, rfl, ?_⟩))
   go_meet
   case rel => exact ⟨_, (true), (by first | rfl | (simp; done) | (simp [*]; done)), H', ⟨by first | omega | exact Nat.le_refl _⟩, ⟨by (with_reducible repeat (first | refine blk_drewN ?_ _ | refine blk_drew ?_ | refine blk_alloc ?_ _)); exact BK402.out⟩, ⟨by repeat (first | (with_reducible first | exact HB.out | apply below_alloc | apply pw_below_drewN | apply below_drew1 | refine below_set ?_ GE402.out) | exact HB.out)⟩⟩
 case rest =>
  clear HC2
  obtain ⟨kq, x25_1, rfl, HA, HJ1, BK402, HB⟩ := hcut
  cases kq with
  | zero => exact absurd HA.out (by simp [tollgateref09_Write.j0])
  | succ kj1 =>
   have H := HA.out
   clear HA
   simp only [tollgateref09_Write.j0] at H
   by_cases c12 : x25_1 = true
   ·subst c12
    have H1 : (some (([] : List Int), 4)) = some (r1, r2) := by rw [if_pos rfl] at H; exact H
    clear H
    have H := H1
    clear H1
    simp only [Option.some.injEq, Prod.mk.injEq] at H
    obtain ⟨rfl, rfl⟩ := H
    go_wp2
    go_ret2
    exact ⟨.slice none 0 0, by first | rfl | (simp [errW_none, errW_some] <;> rfl) | (simp [*, errW_none, errW_some] <;> rfl), Kd.V_nil _ _ _ _ _, by repeat (first | (with_reducible first | exact HB.out | apply below_alloc | apply pw_below_drewN | apply below_drew1 | refine below_set ?_ GE402.out) | exact HB.out)⟩
   ·replace c12 := Bool.eq_false_iff.mpr c12
    subst c12
    have H1 : (if a0_0.size + 1 ≤ 9223372036854775807 then (if (a0_0 ++ (⟨#[32]⟩ : ByteArray)).size + a0_1.size ≤ 9223372036854775807 then (if a0_2.toList = ([] : List UInt8) then (tollgateref09_Write.j1 kj1 ((a0_0 ++ (⟨#[32]⟩ : ByteArray)) ++ a0_1) a0_0 a0_1 a0_2 a0_3 l0_4) else (if 1 + a0_2.size ≤ 9223372036854775807 then (if ((a0_0 ++ (⟨#[32]⟩ : ByteArray)) ++ a0_1).size + ((⟨#[63]⟩ : ByteArray) ++ a0_2).size ≤ 9223372036854775807 then (tollgateref09_Write.j1 kj1 (((a0_0 ++ (⟨#[32]⟩ : ByteArray)) ++ a0_1) ++ ((⟨#[63]⟩ : ByteArray) ++ a0_2)) a0_0 a0_1 a0_2 a0_3 l0_4) else (none)) else (none))) else (none)) else (none)) = some (r1, r2) := by rw [if_neg (show ¬ (false = true) by decide)] at H; exact H
    clear H
    have H := H1
    clear H1
    by_cases c13 : a0_0.size + 1 ≤ 9223372036854775807
    ·rw [if_pos c13] at H
     have c13b0 := eq_true c13
     have c13b1 : decide (a0_0.size + 1 ≤ 9223372036854775807) = true := decide_eq_true c13
     try have c13b2 : (9223372036854775807 < a0_0.size + 1) = False := eq_false (Nat.not_lt.2 c13)
     by_cases c14 : (a0_0 ++ (⟨#[32]⟩ : ByteArray)).size + a0_1.size ≤ 9223372036854775807
     ·rw [if_pos c14] at H
      have c14b0 := eq_true c14
      have c14b1 : decide ((a0_0 ++ (⟨#[32]⟩ : ByteArray)).size + a0_1.size ≤ 9223372036854775807) = true := decide_eq_true c14
      try have c14b2 : (9223372036854775807 < (a0_0 ++ (⟨#[32]⟩ : ByteArray)).size + a0_1.size) = False := eq_false (Nat.not_lt.2 c14)
      have c14s : (9223372036854775807 < a0_0.size + 1 + a0_1.size) = False := eq_false (by have h_ := c14; (try simp only [ByteArray.size_append] at h_); have z0_ : (⟨#[32]⟩ : ByteArray).size = 1 := rfl; omega)
      have HC15 := Aside0.mk H
      clear H
      have hcz16_0 : wc.cell? ⟨gb402, 0, none⟩ = some (.string a0_0) := (blk_cell BK402.out 0).trans rfl
      have hcz16_1 : wc.cell? ⟨gb402, 1, none⟩ = some (.string a0_1) := (blk_cell BK402.out 1).trans rfl
      have hcz16_2 : wc.cell? ⟨gb402, 2, none⟩ = some (.string a0_2) := (blk_cell BK402.out 2).trans rfl
      have hcz16_3 : wc.cell? ⟨gb402, 3, none⟩ = some (.string a0_3) := (blk_cell BK402.out 3).trans rfl
      have hcz16_4 : wc.cell? ⟨gb402, 4, none⟩ = some (.slice A0_4 l0_4.length c0_4) := (blk_cell BK402.out 4).trans rfl
      have hfz16_0 := blk_frozen BK402.out 0
      have hfz16_1 := blk_frozen BK402.out 1
      have hfz16_2 := blk_frozen BK402.out 2
      have hfz16_3 := blk_frozen BK402.out 3
      have hfz16_4 := blk_frozen BK402.out 4
      go_upto_if 34 with (fail)
      go_cut [4] (fun v4 wc => ∃ (kq : Nat) (x4_14 : ByteArray), v4 = .string x4_14 ∧ Aside0 (tollgateref09_Write.j1 kq x4_14 a0_0 a0_1 a0_2 a0_3 l0_4 = some (r1, r2)) ∧ Aside0 (kq ≤ kj1) ∧ Aside0 (wc.heap[gb402]? = some (.cells #[.string a0_0, .string a0_1, .string a0_2, .string a0_3, (.slice A0_4 l0_4.length c0_4)] 25 (0, 0))) ∧ Aside0 (Below w.heap.size w wc))
      case first =>
       have H := HC15.out
       clear HC15
       by_cases c17 : a0_2.toList = ([] : List UInt8)
       ·rw [if_pos c17] at H
        have c17b0 : (a0_2.toList == ([] : List UInt8)) = true := beq_iff_eq.mpr c17
        have c17b1 : (a0_2.toList != ([] : List UInt8)) = false := bne_eq_false_iff_eq.mpr c17
        have c17b2 : a0_2.toList.isEmpty = true := by simpa using c17
        clear c17
        (first | rw [c17b0] | (simp only [i64_w, i32_w]; rw [c17b0]) | rw [c17b2] | skip)
        have H' := Aside0.mk H
        clear H
        go_wp2
        go_meet
        case rel => exact ⟨_, ((a0_0 ++ (⟨#[32]⟩ : ByteArray)) ++ a0_1), (by first | rfl | (simp; done) | (simp [*]; done)), H', ⟨by have := HJ1.out; first | omega | exact Nat.le_refl _⟩, ⟨by (with_reducible repeat (first | refine blk_drewN ?_ _ | refine blk_drew ?_ | refine blk_alloc ?_ _)); exact BK402.out⟩, ⟨by repeat (first | (with_reducible first | exact HB.out | apply below_alloc | apply pw_below_drewN | apply below_drew1 | refine below_set ?_ GE402.out) | exact HB.out)⟩⟩
       ·rw [if_neg c17] at H
        have c17b0 : (a0_2.toList == ([] : List UInt8)) = false := beq_eq_false_iff_ne.mpr c17
        have c17b1 : (a0_2.toList != ([] : List UInt8)) = true := bne_iff_ne.mpr c17
        have c17b2 : a0_2.toList.isEmpty = false := by simpa using c17
        (first | rw [c17b0] | (simp only [i64_w, i32_w]; rw [c17b0]) | rw [c17b2] | skip)
        by_cases c18 : 1 + a0_2.size ≤ 9223372036854775807
        ·rw [if_pos c18] at H
         have c18b0 := eq_true c18
         have c18b1 : decide (1 + a0_2.size ≤ 9223372036854775807) = true := decide_eq_true c18
         try have c18b2 : (9223372036854775807 < 1 + a0_2.size) = False := eq_false (Nat.not_lt.2 c18)
         by_cases c19 : ((a0_0 ++ (⟨#[32]⟩ : ByteArray)) ++ a0_1).size + ((⟨#[63]⟩ : ByteArray) ++ a0_2).size ≤ 9223372036854775807
         ·rw [if_pos c19] at H
          have c19b0 := eq_true c19
          have c19b1 : decide (((a0_0 ++ (⟨#[32]⟩ : ByteArray)) ++ a0_1).size + ((⟨#[63]⟩ : ByteArray) ++ a0_2).size ≤ 9223372036854775807) = true := decide_eq_true c19
          try have c19b2 : (9223372036854775807 < ((a0_0 ++ (⟨#[32]⟩ : ByteArray)) ++ a0_1).size + ((⟨#[63]⟩ : ByteArray) ++ a0_2).size) = False := eq_false (Nat.not_lt.2 c19)
          have c19s : (9223372036854775807 < a0_0.size + 1 + a0_1.size + (1 + a0_2.size)) = False := eq_false (by have h_ := c19; (try simp only [ByteArray.size_append] at h_); have z0_ : (⟨#[63]⟩ : ByteArray).size = 1 := rfl; have z1_ : (⟨#[32]⟩ : ByteArray).size = 1 := rfl; omega)
          have H' := Aside0.mk H
          clear H
          have hcz20_0 : wc.cell? ⟨gb402, 0, none⟩ = some (.string a0_0) := (blk_cell BK402.out 0).trans rfl
          have hcz20_1 : wc.cell? ⟨gb402, 1, none⟩ = some (.string a0_1) := (blk_cell BK402.out 1).trans rfl
          have hcz20_2 : wc.cell? ⟨gb402, 2, none⟩ = some (.string a0_2) := (blk_cell BK402.out 2).trans rfl
          have hcz20_3 : wc.cell? ⟨gb402, 3, none⟩ = some (.string a0_3) := (blk_cell BK402.out 3).trans rfl
          have hcz20_4 : wc.cell? ⟨gb402, 4, none⟩ = some (.slice A0_4 l0_4.length c0_4) := (blk_cell BK402.out 4).trans rfl
          have hfz20_0 := blk_frozen BK402.out 0
          have hfz20_1 := blk_frozen BK402.out 1
          have hfz20_2 := blk_frozen BK402.out 2
          have hfz20_3 := blk_frozen BK402.out 3
          have hfz20_4 := blk_frozen BK402.out 4
          go_wp2
          go_meet
          case rel => exact ⟨_, (((a0_0 ++ (⟨#[32]⟩ : ByteArray)) ++ a0_1) ++ ((⟨#[63]⟩ : ByteArray) ++ a0_2)), (by first | rfl | (simp; done) | (simp [*]; done)), H', ⟨by have := HJ1.out; first | omega | exact Nat.le_refl _⟩, ⟨by (with_reducible repeat (first | refine blk_drewN ?_ _ | refine blk_drew ?_ | refine blk_alloc ?_ _)); exact BK402.out⟩, ⟨by repeat (first | (with_reducible first | exact HB.out | apply below_alloc | apply pw_below_drewN | apply below_drew1 | refine below_set ?_ GE402.out) | exact HB.out)⟩⟩
         ·rw [if_neg c19] at H
          exact absurd H (by simp)
        ·rw [if_neg c18] at H
         exact absurd H (by simp)
      case rest =>
       clear HC15
       try clear c12
       try clear c13
       try clear c13b0
       try clear c13b1
       try clear c13b2
       try clear c14
       try clear c14b0
       try clear c14b1
       try clear c14b2
       try clear hcz16_0
       try clear hcz16_1
       try clear hcz16_2
       try clear hcz16_3
       try clear hcz16_4
       try clear hfz16_0
       try clear hfz16_1
       try clear hfz16_2
       try clear hfz16_3
       try clear hfz16_4
       obtain ⟨kq, x4_14, rfl, HA, HJ14, BK402, HB⟩ := hcut
       cases kq with
       | zero => exact absurd HA.out (by simp [tollgateref09_Write.j1])
       | succ kj14 =>
        have H := HA.out
        clear HA
        simp only [tollgateref09_Write.j1] at H
        by_cases c21 : x4_14.size + 11 ≤ 9223372036854775807
        ·rw [if_pos c21] at H
         have c21b0 := eq_true c21
         have c21b1 : decide (x4_14.size + 11 ≤ 9223372036854775807) = true := decide_eq_true c21
         try have c21b2 : (9223372036854775807 < x4_14.size + 11) = False := eq_false (Nat.not_lt.2 c21)
         have H' := Aside0.mk H
         clear H
         go_wp2
         go_loopg [4, 5, 6] kj14 (fun kq v4 v5 v6 w' => ∃ (x4_3 : ByteArray) (x5_3 : Int) (x6_3 : Int), v4 = .string x4_3 ∧ v5 = .int .i64 x5_3 ∧ v6 = .int .i64 x6_3 ∧ Aside0 (tollgateref09_Write.l0 kq x4_3 x5_3 x6_3 a0_0 a0_1 a0_2 a0_3 l0_4 = some (r1, r2)) ∧ Aside0 (kq ≤ kj14) ∧ Aside0 (w'.heap[gb402]? = some (.cells #[.string a0_0, .string a0_1, .string a0_2, .string a0_3, (.slice A0_4 l0_4.length c0_4)] 25 (0, 0))) ∧ Aside0 (Below w.heap.size w w'))
         case atStart => exact ⟨(x4_14 ++ (⟨#[32, 72, 84, 84, 80, 47, 49, 46, 49, 13, 10]⟩ : ByteArray)), (0), (0), (by first | rfl | (simp; done) | (simp [*]; done)), (by first | rfl | (simp; done) | (simp [*]; done)), (by first | rfl | (simp; done) | (simp [*]; done)), H', ⟨Nat.le_refl _⟩, ⟨by (with_reducible repeat (first | refine blk_drewN ?_ _ | refine blk_drew ?_ | refine blk_alloc ?_ _)); exact BK402.out⟩, ⟨by repeat (first | (with_reducible first | exact HB.out | apply below_alloc | apply pw_below_drewN | apply below_drew1 | refine below_set ?_ GE402.out) | exact HB.out)⟩⟩
         case round =>
          clear H'
          try clear c12
          try clear c13
          try clear c13b0
          try clear c13b1
          try clear c13b2
          try clear c14
          try clear c14b0
          try clear c14b1
          try clear c14b2
          try clear c21
          try clear c21b0
          try clear c21b1
          try clear c21b2
          try clear hcz16_0
          try clear hcz16_1
          try clear hcz16_2
          try clear hcz16_3
          try clear hcz16_4
          try clear hfz16_0
          try clear hfz16_1
          try clear hfz16_2
          try clear hfz16_3
          try clear hfz16_4
          obtain ⟨x4_3, x5_3, x6_3, rfl, rfl, rfl, HA, HK3, BK402, HB⟩ := hrel
          cases gk with
          | zero => exact absurd HA.out (by simp [tollgateref09_Write.l0])
          | succ k3 =>
           have H := HA.out
           clear HA
           simp only [tollgateref09_Write.l0] at H
           by_cases c22 : x6_3 < (l0_4.length : Int)
           ·rw [if_pos c22] at H
            have c22b0 : decide (x6_3 < (l0_4.length : Int)) = true := decide_eq_true c22
            clear c22
            by_cases c23 : 0 ≤ x6_3
            ·rw [if_pos c23] at H
             have c23b0 : decide (0 ≤ x6_3) = true := decide_eq_true c23
             clear c23
             have HC24 := Aside0.mk H
             clear H
             have hcz25_0 : wr.cell? ⟨gb402, 0, none⟩ = some (.string a0_0) := (blk_cell BK402.out 0).trans rfl
             have hcz25_1 : wr.cell? ⟨gb402, 1, none⟩ = some (.string a0_1) := (blk_cell BK402.out 1).trans rfl
             have hcz25_2 : wr.cell? ⟨gb402, 2, none⟩ = some (.string a0_2) := (blk_cell BK402.out 2).trans rfl
             have hcz25_3 : wr.cell? ⟨gb402, 3, none⟩ = some (.string a0_3) := (blk_cell BK402.out 3).trans rfl
             have hcz25_4 : wr.cell? ⟨gb402, 4, none⟩ = some (.slice A0_4 l0_4.length c0_4) := (blk_cell BK402.out 4).trans rfl
             have hfz25_0 := blk_frozen BK402.out 0
             have hfz25_1 := blk_frozen BK402.out 1
             have hfz25_2 := blk_frozen BK402.out 2
             have hfz25_3 := blk_frozen BK402.out 3
             have hfz25_4 := blk_frozen BK402.out 4
             have p406 : 0 ≤ (x6_3 : Int) := of_decide_eq_true (by first | (with_reducible assumption) | assumption)
             have q406 : x6_3 < (l0_4.length : Int) := of_decide_eq_true (by first | (with_reducible assumption) | assumption)
             obtain ⟨ad406, e406, hx406_0, hx406_1⟩ := at_T38 HR0_4.out x6_3 p406 q406
             cases e406
             replace hx406_0 := (HB.out.cell (World.block_lt_of_cell? w _ hx406_0)).trans hx406_0
             replace hx406_1 := (HB.out.cell (World.block_lt_of_cell? w _ hx406_1)).trans hx406_1
             replace p406 := eq_true p406
             replace q406 := eq_true q406
             go_upto_region 12 with (first | ((with_reducible refine gate_dst (N := 7) rfl ?_); (try (refine gate_guard (by rfl) ?_; dsimp only)); refine box_event ?hg (N := 7) ?hd (cs := #[.string (⟨#[]⟩ : ByteArray), .string (⟨#[]⟩ : ByteArray)]) (t := 38) ?hr ?_; (case hd => rfl); (case hg => rfl); (case hr => first | (go_simp; done) | (go_simp; rfl)); intro gb407 hg w26 hbox hb; have n0_ := Aside0.mk (blk_below (g := gb402) (o := .cells #[.string a0_0, .string a0_1, .string a0_2, .string a0_3, .slice (some ad406) l0_4.length c0_4] 25 (0, 0)) (by (with_reducible repeat (first | refine blk_drewN ?_ _ | refine blk_drew ?_ | refine blk_alloc ?_ _)); exact BK402.out) hb); have n1_ := Aside0.mk (below_step (by repeat (first | (with_reducible first | exact HB.out | apply below_alloc | apply pw_below_drewN | apply below_drew1 | refine below_set ?_ GE402.out) | exact HB.out)) hb); have n2_ := Aside0.mk (hbox); have n3_ := Aside0.mk ((by rw [hg]; exact (below_size (by repeat (first | (with_reducible first | exact HB.out | apply below_alloc | apply pw_below_drewN | apply below_drew1 | refine below_set ?_ GE402.out) | exact HB.out))) : w.heap.size ≤ gb407)); have n4_ := Aside0.mk ((by rw [hg]; exact (below_size (by repeat (first | (with_reducible first | exact HB.out | apply below_alloc | apply pw_below_drewN | apply below_drew1 | refine below_set ?_ GE402.out) | exact HB.out))) : w.heap.size ≤ gb407)); have n5_ := Aside0.mk ((by rw [hg]; exact Nat.ne_of_lt (blk_lt (g := gb402) (o := .cells #[.string a0_0, .string a0_1, .string a0_2, .string a0_3, .slice (some ad406) l0_4.length c0_4] 25 (0, 0)) (by (with_reducible repeat (first | refine blk_drewN ?_ _ | refine blk_drew ?_ | refine blk_alloc ?_ _)); exact BK402.out)) : gb402 ≠ gb407)); have n6_ := Aside0.mk ((by rw [hg]; exact Nat.ne_of_gt (blk_lt (g := gb402) (o := .cells #[.string a0_0, .string a0_1, .string a0_2, .string a0_3, .slice (some ad406) l0_4.length c0_4] 25 (0, 0)) (by (with_reducible repeat (first | refine blk_drewN ?_ _ | refine blk_drew ?_ | refine blk_alloc ?_ _)); exact BK402.out)) : gb407 ≠ gb402)); clear BK402; clear HB; have BK402 := n0_; have HB := n1_; have BK407 := n2_; have GW407 := n3_; have GE407 := n4_; have NB402_407 := n5_; have NB407_402 := n6_; clear n0_ n1_ n2_ n3_ n4_ n5_ n6_; clear hb hbox hg; have hnb27 := NB407_402.out; have hnc27 := NB402_407.out; have hcz28_0 : w26.cell? ⟨gb407, 0, none⟩ = some (.string (⟨#[]⟩ : ByteArray)) := (blk_cell BK407.out 0).trans rfl; have hcz28_1 : w26.cell? ⟨gb407, 1, none⟩ = some (.string (⟨#[]⟩ : ByteArray)) := (blk_cell BK407.out 1).trans rfl; have hfz28_0 := blk_frozen BK407.out 0; have hfz28_1 := blk_frozen BK407.out 1))
             (try simp only [Act.put, List.setIfInBounds_toArray, List.set_cons_zero, List.set_cons_succ])
             go_cut [71] (fun v71 wc => ∃ (kq : Nat) (x71_23 : Bool), v71 = .bool x71_23 ∧ Aside0 (tollgateref09_Write.j3 kq x4_3 x5_3 x6_3 x71_23 a0_0 a0_1 a0_2 a0_3 l0_4 ((rd_T38 l0_4 x6_3).f0) ((rd_T38 l0_4 x6_3).f1) = some (r1, r2)) ∧ Aside0 (kq ≤ k3) ∧ Aside0 (wc.heap[gb402]? = some (.cells #[.string a0_0, .string a0_1, .string a0_2, .string a0_3, (.slice (some ad406) l0_4.length c0_4)] 25 (0, 0))) ∧ Aside0 (wc.heap[gb407]? = some (.cells #[.string ((rd_T38 l0_4 x6_3).f0), .string ((rd_T38 l0_4 x6_3).f1)] 38 (0, 0))) ∧ Aside0 (Below w.heap.size w wc))
             case first =>
              have H := HC24.out
              clear HC24
              replace H := Option.bind_eq_some_iff.mp H
              obtain ⟨t408, A290, H⟩ := H
              replace H : (if t408 = true then ((tollgateref09_Lower.f k3 ((rd_T38 l0_4 x6_3).f0)).bind fun t409 => (if t409.toList = ((rd_T38 l0_4 x6_3).f0).toList then ((tollgateref09_Value.f k3 ((rd_T38 l0_4 x6_3).f1)).bind fun t410 => (tollgateref09_Write.j3 k3 x4_3 x5_3 x6_3 (!t410) a0_0 a0_1 a0_2 a0_3 l0_4 ((rd_T38 l0_4 x6_3).f0) ((rd_T38 l0_4 x6_3).f1))) else (tollgateref09_Write.j3 k3 x4_3 x5_3 x6_3 true a0_0 a0_1 a0_2 a0_3 l0_4 ((rd_T38 l0_4 x6_3).f0) ((rd_T38 l0_4 x6_3).f1)))) else (tollgateref09_Write.j3 k3 x4_3 x5_3 x6_3 true a0_0 a0_1 a0_2 a0_3 l0_4 ((rd_T38 l0_4 x6_3).f0) ((rd_T38 l0_4 x6_3).f1))) = some (r1, r2) := H
              have A29 := Aside0.mk A290
              clear A290
              by_cases c30 : t408 = true
              ·subst c30
               have H1 : ((tollgateref09_Lower.f k3 ((rd_T38 l0_4 x6_3).f0)).bind fun t409 => (if t409.toList = ((rd_T38 l0_4 x6_3).f0).toList then ((tollgateref09_Value.f k3 ((rd_T38 l0_4 x6_3).f1)).bind fun t410 => (tollgateref09_Write.j3 k3 x4_3 x5_3 x6_3 (!t410) a0_0 a0_1 a0_2 a0_3 l0_4 ((rd_T38 l0_4 x6_3).f0) ((rd_T38 l0_4 x6_3).f1))) else (tollgateref09_Write.j3 k3 x4_3 x5_3 x6_3 true a0_0 a0_1 a0_2 a0_3 l0_4 ((rd_T38 l0_4 x6_3).f0) ((rd_T38 l0_4 x6_3).f1)))) = some (r1, r2) := by rw [if_pos rfl] at H; exact H
               clear H
               have H := H1
               clear H1
               replace H := Option.bind_eq_some_iff.mp H
               obtain ⟨t409, A310, H⟩ := H
               replace H : (if t409.toList = ((rd_T38 l0_4 x6_3).f0).toList then ((tollgateref09_Value.f k3 ((rd_T38 l0_4 x6_3).f1)).bind fun t410 => (tollgateref09_Write.j3 k3 x4_3 x5_3 x6_3 (!t410) a0_0 a0_1 a0_2 a0_3 l0_4 ((rd_T38 l0_4 x6_3).f0) ((rd_T38 l0_4 x6_3).f1))) else (tollgateref09_Write.j3 k3 x4_3 x5_3 x6_3 true a0_0 a0_1 a0_2 a0_3 l0_4 ((rd_T38 l0_4 x6_3).f0) ((rd_T38 l0_4 x6_3).f1))) = some (r1, r2) := H
               have A31 := Aside0.mk A310
               clear A310
               by_cases c32 : t409.toList = ((rd_T38 l0_4 x6_3).f0).toList
               ·rw [if_pos c32] at H
                have c32b0 : (t409.toList == ((rd_T38 l0_4 x6_3).f0).toList) = true := beq_iff_eq.mpr c32
                have c32b1 : (t409.toList != ((rd_T38 l0_4 x6_3).f0).toList) = false := bne_eq_false_iff_eq.mpr c32
                clear c32
                (first | rw [c32b0] | (simp only [i64_w, i32_w]; rw [c32b0]) | skip)
                replace H := Option.bind_eq_some_iff.mp H
                obtain ⟨t410, A330, H⟩ := H
                replace H : (tollgateref09_Write.j3 k3 x4_3 x5_3 x6_3 (!t410) a0_0 a0_1 a0_2 a0_3 l0_4 ((rd_T38 l0_4 x6_3).f0) ((rd_T38 l0_4 x6_3).f1)) = some (r1, r2) := H
                have A33 := Aside0.mk A330
                clear A330
                have H' := Aside0.mk H
                clear H
                try go_wp2
                have n0_ : Aside0 (((w26.setCell ⟨gb407, 0, none⟩ (.string ((rd_T38 l0_4 x6_3).f0))).setCell ⟨gb407, 1, none⟩ (.string ((rd_T38 l0_4 x6_3).f1))).heap[gb402]? = some (.cells #[.string a0_0, .string a0_1, .string a0_2, .string a0_3, .slice (some ad406) l0_4.length c0_4] 25 (0, 0))) := ⟨by (with_reducible repeat (first | refine blk_drewN ?_ _ | refine blk_drew ?_ | refine blk_alloc ?_ _)); refine blk_far ?_ NB402_407.out _; (with_reducible repeat (first | refine blk_drewN ?_ _ | refine blk_drew ?_ | refine blk_alloc ?_ _)); refine blk_far ?_ NB402_407.out _; (with_reducible repeat (first | refine blk_drewN ?_ _ | refine blk_drew ?_ | refine blk_alloc ?_ _)); exact BK402.out⟩
                have n1_ : Aside0 (((w26.setCell ⟨gb407, 0, none⟩ (.string ((rd_T38 l0_4 x6_3).f0))).setCell ⟨gb407, 1, none⟩ (.string ((rd_T38 l0_4 x6_3).f1))).heap[gb407]? = some (.cells #[.string ((rd_T38 l0_4 x6_3).f0), .string ((rd_T38 l0_4 x6_3).f1)] 38 (0, 0))) := ⟨by (with_reducible repeat (first | refine blk_drewN ?_ _ | refine blk_drew ?_ | refine blk_alloc ?_ _)); refine blk_put (cs := #[.string ((rd_T38 l0_4 x6_3).f0), .string (⟨#[]⟩ : ByteArray)]) ?_ 1 _ rfl; (with_reducible repeat (first | refine blk_drewN ?_ _ | refine blk_drew ?_ | refine blk_alloc ?_ _)); refine blk_put (cs := #[.string (⟨#[]⟩ : ByteArray), .string (⟨#[]⟩ : ByteArray)]) ?_ 0 _ rfl; (with_reducible repeat (first | refine blk_drewN ?_ _ | refine blk_drew ?_ | refine blk_alloc ?_ _)); exact BK407.out⟩
                have n2_ : Aside0 (Below w.heap.size w ((w26.setCell ⟨gb407, 0, none⟩ (.string ((rd_T38 l0_4 x6_3).f0))).setCell ⟨gb407, 1, none⟩ (.string ((rd_T38 l0_4 x6_3).f1)))) := ⟨by repeat (first | (with_reducible first | exact HB.out | apply below_alloc | apply pw_below_drewN | apply below_drew1 | refine below_set ?_ GE402.out | refine below_set ?_ GE407.out) | exact HB.out)⟩
                (try clear BK402)
                (try clear BK407)
                (try clear HB)
                generalize ((w26.setCell ⟨gb407, 0, none⟩ (.string ((rd_T38 l0_4 x6_3).f0))).setCell ⟨gb407, 1, none⟩ (.string ((rd_T38 l0_4 x6_3).f1))) = w34 at n0_ n1_ n2_ ⊢
                have BK402 := n0_
                have BK407 := n1_
                have HB := n2_
                clear n0_ n1_ n2_
                have n0_ := Aside0.mk (blk_drew BK402.out)
                have n1_ := Aside0.mk (blk_drew BK407.out)
                have n2_ := Aside0.mk (below_drew1 HB.out)
                clear BK402
                clear BK407
                clear HB
                have BK402 := n0_
                have BK407 := n1_
                have HB := n2_
                clear n0_ n1_ n2_
                refine start_ (n := 18) (S := fun w' => w'.cell? ⟨gb407, 0, none⟩ = some (.string ((rd_T38 l0_4 x6_3).f0)) ∧ w'.cell? ⟨gb407, 1, none⟩ = some (.string ((rd_T38 l0_4 x6_3).f1))) (ds := []) #[false, false, false, false, false, false, false, false, false, false, false, false, false, false, false, false, false, false] (by kernel_rfl) rfl rfl ⟨(blk_cell BK407.out 0).trans rfl, (blk_cell BK407.out 1).trans rfl⟩ (fun hHeld => ?_); refine with_tabW tollgateref09_Write.tab12 tollgateref09_Write.bits12 (fun HT_ HW_ => ?_)
                generalize w34.drew = w35 at BK402 BK407 HB hHeld ⊢
                refine pure_ (i := 0) (N := some 54) (v := ?_) (a' := ?_) #[true, false, false, false, false, false, false, false, false, false, false, false, false, false, false, false, false, false] rfl rfl (any_of HT_.out (by kernel_rfl)) (fun _ _ _ h => h) (Or.inl ⟨by rfl, ?_⟩) ?_ ?_
                rotate_left
                ·intro w'
                 go_simp
                 with_reducible rfl
                rotate_left
                ·simp only [Act.put, List.setIfInBounds_toArray, List.set_cons_zero, List.set_cons_succ, i64_w, i32_w]
                 rfl
                refine take_ (i := 1) (N := some 55) (v := ?_) (a' := ?_) #[true, true, false, false, false, false, false, false, false, false, false, false, false, false, false, false, false, false] rfl rfl (take_ofW HT_.out HW_.out (by kernel_rfl)) (fun _ _ _ h => h) (Or.inl ⟨by rfl, ?_⟩) hHeld ?_ ?_
                rotate_left
                ·rintro w' ⟨s0, s1⟩
                 go_simp
                 with_reducible rfl
                rotate_left
                ·simp only [Act.put, List.setIfInBounds_toArray, List.set_cons_zero, List.set_cons_succ, i64_w, i32_w]
                 rfl
                refine one_ (i := 2) (N := some 56) #[true, true, true, false, false, false, false, false, false, false, false, false, false, false, false, false, false, false] rfl rfl (one_of HT_.out (by kernel_rfl)) (by decide) (fun K hK => ?_)
                refine goes_ Tryd.func46 (by kernel_rfl) rfl #[.string ((rd_T38 l0_4 x6_3).f0)] (by rfl) rfl rfl (by (try simp only [List.map_toArray, List.map_cons, List.map_nil]); first | done | rfl | (simp only [List.length_drop, List.length_take]; rfl)) ?_
                with_reducible refine (tollgateref09_Token.calls k3 ((rd_T38 l0_4 x6_3).f0) true _ A29.out).mono ?_
                rintro e w' ⟨rfl, ⟨nd, rfl⟩⟩
                refine ⟨_, rfl, ?_⟩
                refine hK.out _ _ ⟨(blk_cell BK407.out 0).trans rfl, (blk_cell BK407.out 1).trans rfl⟩ (fun hHeld => ?_)
                clear hK K
                refine norm_ (a' := ?_) ?_ ?_
                rotate_left
                ·show Act.put _ (some 56) _ = _
                 simp only [Act.put, List.setIfInBounds_toArray, List.set_cons_zero, List.set_cons_succ, i64_w, i32_w]
                 rfl
                refine pure_ (i := 3) (N := some 57) (v := ?_) (a' := ?_) #[true, true, true, true, false, false, false, false, false, false, false, false, false, false, false, false, false, false] rfl rfl (any_of HT_.out (by kernel_rfl)) (fun _ _ _ h => h) (Or.inl ⟨by rfl, ?_⟩) ?_ ?_
                rotate_left
                ·intro w'
                 go_simp
                 with_reducible rfl
                rotate_left
                ·simp only [Act.put, List.setIfInBounds_toArray, List.set_cons_zero, List.set_cons_succ, i64_w, i32_w]
                 rfl
                refine pure_ (i := 4) (N := some 58) (v := ?_) (a' := ?_) #[true, true, true, true, true, false, false, false, false, false, false, false, false, false, false, false, false, false] rfl rfl (any_of HT_.out (by kernel_rfl)) (fun _ _ _ h => h) (Or.inl ⟨by rfl, ?_⟩) ?_ ?_
                rotate_left
                ·intro w'
                 go_simp
                 with_reducible rfl
                rotate_left
                ·simp only [Act.put, List.setIfInBounds_toArray, List.set_cons_zero, List.set_cons_succ, i64_w, i32_w]
                 rfl
                refine pure_ (i := 5) (N := some 59) (v := ?_) (a' := ?_) #[true, true, true, true, true, true, false, false, false, false, false, false, false, false, false, false, false, false] rfl rfl (any_of HT_.out (by kernel_rfl)) (fun _ _ _ h => h) (Or.inl ⟨by rfl, ?_⟩) ?_ ?_
                rotate_left
                ·intro w'
                 go_simp
                 with_reducible rfl
                rotate_left
                ·simp only [Act.put, List.setIfInBounds_toArray, List.set_cons_zero, List.set_cons_succ, i64_w, i32_w]
                 rfl
                refine pure_ (i := 8) (N := some 62) (v := ?_) (a' := ?_) #[true, true, true, true, true, true, false, false, true, false, false, false, false, false, false, false, false, false] rfl rfl (any_of HT_.out (by kernel_rfl)) (fun _ _ _ h => h) (Or.inl ⟨by rfl, ?_⟩) ?_ ?_
                rotate_left
                ·intro w'
                 go_simp
                 with_reducible rfl
                rotate_left
                ·simp only [Act.put, List.setIfInBounds_toArray, List.set_cons_zero, List.set_cons_succ, i64_w, i32_w]
                 rfl
                refine take_ (i := 6) (N := some 60) (v := ?_) (a' := ?_) #[true, true, true, true, true, true, true, false, true, false, false, false, false, false, false, false, false, false] rfl rfl (take_ofW HT_.out HW_.out (by kernel_rfl)) (fun _ _ _ h => h) (Or.inl ⟨by rfl, ?_⟩) hHeld ?_ ?_
                rotate_left
                ·rintro w' ⟨s0, s1⟩
                 go_simp
                 with_reducible rfl
                rotate_left
                ·simp only [Act.put, List.setIfInBounds_toArray, List.set_cons_zero, List.set_cons_succ, i64_w, i32_w]
                 rfl
                refine take_ (i := 9) (N := some 63) (v := ?_) (a' := ?_) #[true, true, true, true, true, true, true, false, true, true, false, false, false, false, false, false, false, false] rfl rfl (take_ofW HT_.out HW_.out (by kernel_rfl)) (fun _ _ _ h => h) (Or.inl ⟨by rfl, ?_⟩) hHeld ?_ ?_
                rotate_left
                ·rintro w' ⟨s0, s1⟩
                 go_simp
                 with_reducible rfl
                rotate_left
                ·simp only [Act.put, List.setIfInBounds_toArray, List.set_cons_zero, List.set_cons_succ, i64_w, i32_w]
                 rfl
                refine one_ (i := 7) (N := some 61) #[true, true, true, true, true, true, true, true, true, true, false, false, false, false, false, false, false, false] rfl rfl (one_of HT_.out (by kernel_rfl)) (by decide) (fun K hK => ?_)
                refine goes_ Tryd.func48 (by kernel_rfl) rfl #[.string ((rd_T38 l0_4 x6_3).f0)] (by rfl) rfl rfl (by (try simp only [List.map_toArray, List.map_cons, List.map_nil]); first | done | rfl | (simp only [List.length_drop, List.length_take]; rfl)) ?_
                with_reducible refine (tollgateref09_Lower.calls k3 ((rd_T38 l0_4 x6_3).f0) t409 _ A31.out).mono ?_
                rintro e w36 ⟨rfl, hb⟩
                refine ⟨_, rfl, ?_⟩
                have n0_ := Aside0.mk (blk_below (g := gb402) (o := .cells #[.string a0_0, .string a0_1, .string a0_2, .string a0_3, .slice (some ad406) l0_4.length c0_4] 25 (0, 0)) (by (with_reducible repeat (first | refine blk_drewN ?_ _ | refine blk_drew ?_ | refine blk_alloc ?_ _)); exact BK402.out) hb)
                have n1_ := Aside0.mk (blk_below (g := gb407) (o := .cells #[.string ((rd_T38 l0_4 x6_3).f0), .string ((rd_T38 l0_4 x6_3).f1)] 38 (0, 0)) (by (with_reducible repeat (first | refine blk_drewN ?_ _ | refine blk_drew ?_ | refine blk_alloc ?_ _)); exact BK407.out) hb)
                have n2_ := Aside0.mk (below_step (by repeat (first | (with_reducible first | exact HB.out | apply below_alloc | apply pw_below_drewN | apply below_drew1 | refine below_set ?_ GE402.out | refine below_set ?_ GE407.out) | exact HB.out)) hb)
                clear BK402
                clear BK407
                clear HB
                have BK402 := n0_
                have BK407 := n1_
                have HB := n2_
                clear n0_ n1_ n2_
                (try clear hb)
                (try clear hb2)
                (try clear hk)
                (try clear hi)
                refine hK.out _ _ ⟨(blk_cell BK407.out 0).trans rfl, (blk_cell BK407.out 1).trans rfl⟩ (fun hHeld => ?_)
                clear hK K
                refine norm_ (a' := ?_) ?_ ?_
                rotate_left
                ·show Act.put _ (some 61) _ = _
                 simp only [Act.put, List.setIfInBounds_toArray, List.set_cons_zero, List.set_cons_succ, i64_w, i32_w]
                 rfl
                refine pure_ (i := 10) (N := some 64) (v := ?_) (a' := ?_) #[true, true, true, true, true, true, true, true, true, true, true, false, false, false, false, false, false, false] rfl rfl (any_of HT_.out (by kernel_rfl)) (fun _ _ _ h => h) (Or.inl ⟨by rfl, ?_⟩) ?_ ?_
                rotate_left
                ·intro w'
                 go_simp
                 with_reducible rfl
                rotate_left
                ·simp only [Act.put, List.setIfInBounds_toArray, List.set_cons_zero, List.set_cons_succ, i64_w, i32_w]
                 rfl
                refine pure_ (i := 11) (N := some 65) (v := ?_) (a' := ?_) #[true, true, true, true, true, true, true, true, true, true, true, true, false, false, false, false, false, false] rfl rfl (any_of HT_.out (by kernel_rfl)) (fun _ _ _ h => h) (Or.inl ⟨by rfl, ?_⟩) ?_ ?_
                rotate_left
                ·intro w'
                 go_simp
                 with_reducible rfl
                rotate_left
                ·simp only [Act.put, List.setIfInBounds_toArray, List.set_cons_zero, List.set_cons_succ, i64_w, i32_w]
                 rfl
                refine pure_ (i := 12) (N := some 66) (v := ?_) (a' := ?_) #[true, true, true, true, true, true, true, true, true, true, true, true, true, false, false, false, false, false] rfl rfl (any_of HT_.out (by kernel_rfl)) (fun _ _ _ h => h) (Or.inl ⟨by rfl, ?_⟩) ?_ ?_
                rotate_left
                ·intro w'
                 go_simp
                 with_reducible rfl
                rotate_left
                ·simp only [Act.put, List.setIfInBounds_toArray, List.set_cons_zero, List.set_cons_succ, i64_w, i32_w]
                 rfl
                refine pure_ (i := 13) (N := some 67) (v := ?_) (a' := ?_) #[true, true, true, true, true, true, true, true, true, true, true, true, true, true, false, false, false, false] rfl rfl (any_of HT_.out (by kernel_rfl)) (fun _ _ _ h => h) (Or.inl ⟨by rfl, ?_⟩) ?_ ?_
                rotate_left
                ·intro w'
                 go_simp
                 with_reducible rfl
                rotate_left
                ·simp only [Act.put, List.setIfInBounds_toArray, List.set_cons_zero, List.set_cons_succ, i64_w, i32_w]
                 rfl
                refine take_ (i := 14) (N := some 68) (v := ?_) (a' := ?_) #[true, true, true, true, true, true, true, true, true, true, true, true, true, true, true, false, false, false] rfl rfl (take_ofW HT_.out HW_.out (by kernel_rfl)) (fun _ _ _ h => h) (Or.inl ⟨by rfl, ?_⟩) hHeld ?_ ?_
                rotate_left
                ·rintro w' ⟨s0, s1⟩
                 go_simp
                 with_reducible rfl
                rotate_left
                ·simp only [Act.put, List.setIfInBounds_toArray, List.set_cons_zero, List.set_cons_succ, i64_w, i32_w]
                 rfl
                refine one_ (i := 15) (N := some 69) #[true, true, true, true, true, true, true, true, true, true, true, true, true, true, true, true, false, false] rfl rfl (one_of HT_.out (by kernel_rfl)) (by decide) (fun K hK => ?_)
                refine goes_ Tryd.func47 (by kernel_rfl) rfl #[.string ((rd_T38 l0_4 x6_3).f1)] (by rfl) rfl rfl (by (try simp only [List.map_toArray, List.map_cons, List.map_nil]); first | done | rfl | (simp only [List.length_drop, List.length_take]; rfl)) ?_
                with_reducible refine (tollgateref09_Value.calls k3 ((rd_T38 l0_4 x6_3).f1) t410 _ A33.out).mono ?_
                rintro e w' ⟨rfl, ⟨nd, rfl⟩⟩
                refine ⟨_, rfl, ?_⟩
                refine hK.out _ _ ⟨(blk_cell BK407.out 0).trans rfl, (blk_cell BK407.out 1).trans rfl⟩ (fun hHeld => ?_)
                clear hK K
                refine norm_ (a' := ?_) ?_ ?_
                rotate_left
                ·show Act.put _ (some 69) _ = _
                 simp only [Act.put, List.setIfInBounds_toArray, List.set_cons_zero, List.set_cons_succ, i64_w, i32_w]
                 rfl
                refine pure_ (i := 16) (N := some 70) (v := ?_) (a' := ?_) #[true, true, true, true, true, true, true, true, true, true, true, true, true, true, true, true, true, false] rfl rfl (any_of HT_.out (by kernel_rfl)) (fun _ _ _ h => h) (Or.inl ⟨by rfl, ?_⟩) ?_ ?_
                rotate_left
                ·intro w'
                 go_simp
                 with_reducible rfl
                rotate_left
                ·simp only [Act.put, List.setIfInBounds_toArray, List.set_cons_zero, List.set_cons_succ, i64_w, i32_w]
                 rfl
                refine pure_ (i := 17) (N := some 71) (v := ?_) (a' := ?_) #[true, true, true, true, true, true, true, true, true, true, true, true, true, true, true, true, true, true] rfl rfl (any_of HT_.out (by kernel_rfl)) (fun _ _ _ h => h) (Or.inl ⟨by rfl, ?_⟩) ?_ ?_
                rotate_left
                ·intro w'
                 go_simp
                 with_reducible rfl
                rotate_left
                ·simp only [Act.put, List.setIfInBounds_toArray, List.set_cons_zero, List.set_cons_succ, i64_w, i32_w]
                 rfl
                refine done_ (done_of HT_.out (by kernel_rfl)) ?_
                try go_wp2
                go_meet
                case rel => exact ⟨_, (!t410), (by first | rfl | (simp; done) | (simp [*]; done)), H', ⟨by have := HJ1.out; have := HJ14.out; have := HK3.out; first | omega | exact Nat.le_refl _⟩, ⟨by (with_reducible repeat (first | refine blk_drewN ?_ _ | refine blk_drew ?_ | refine blk_alloc ?_ _)); exact BK402.out⟩, ⟨by (with_reducible repeat (first | refine blk_drewN ?_ _ | refine blk_drew ?_ | refine blk_alloc ?_ _)); exact BK407.out⟩, ⟨by repeat (first | (with_reducible first | exact HB.out | apply below_alloc | apply pw_below_drewN | apply below_drew1 | refine below_set ?_ GE402.out | refine below_set ?_ GE407.out) | exact HB.out)⟩⟩
               ·rw [if_neg c32] at H
                have c32b0 : (t409.toList == ((rd_T38 l0_4 x6_3).f0).toList) = false := beq_eq_false_iff_ne.mpr c32
                have c32b1 : (t409.toList != ((rd_T38 l0_4 x6_3).f0).toList) = true := bne_iff_ne.mpr c32
                (first | rw [c32b0] | (simp only [i64_w, i32_w]; rw [c32b0]) | skip)
                have H' := Aside0.mk H
                clear H
                try go_wp2
                have n0_ : Aside0 (((w26.setCell ⟨gb407, 0, none⟩ (.string ((rd_T38 l0_4 x6_3).f0))).setCell ⟨gb407, 1, none⟩ (.string ((rd_T38 l0_4 x6_3).f1))).heap[gb402]? = some (.cells #[.string a0_0, .string a0_1, .string a0_2, .string a0_3, .slice (some ad406) l0_4.length c0_4] 25 (0, 0))) := ⟨by (with_reducible repeat (first | refine blk_drewN ?_ _ | refine blk_drew ?_ | refine blk_alloc ?_ _)); refine blk_far ?_ NB402_407.out _; (with_reducible repeat (first | refine blk_drewN ?_ _ | refine blk_drew ?_ | refine blk_alloc ?_ _)); refine blk_far ?_ NB402_407.out _; (with_reducible repeat (first | refine blk_drewN ?_ _ | refine blk_drew ?_ | refine blk_alloc ?_ _)); exact BK402.out⟩
                have n1_ : Aside0 (((w26.setCell ⟨gb407, 0, none⟩ (.string ((rd_T38 l0_4 x6_3).f0))).setCell ⟨gb407, 1, none⟩ (.string ((rd_T38 l0_4 x6_3).f1))).heap[gb407]? = some (.cells #[.string ((rd_T38 l0_4 x6_3).f0), .string ((rd_T38 l0_4 x6_3).f1)] 38 (0, 0))) := ⟨by (with_reducible repeat (first | refine blk_drewN ?_ _ | refine blk_drew ?_ | refine blk_alloc ?_ _)); refine blk_put (cs := #[.string ((rd_T38 l0_4 x6_3).f0), .string (⟨#[]⟩ : ByteArray)]) ?_ 1 _ rfl; (with_reducible repeat (first | refine blk_drewN ?_ _ | refine blk_drew ?_ | refine blk_alloc ?_ _)); refine blk_put (cs := #[.string (⟨#[]⟩ : ByteArray), .string (⟨#[]⟩ : ByteArray)]) ?_ 0 _ rfl; (with_reducible repeat (first | refine blk_drewN ?_ _ | refine blk_drew ?_ | refine blk_alloc ?_ _)); exact BK407.out⟩
                have n2_ : Aside0 (Below w.heap.size w ((w26.setCell ⟨gb407, 0, none⟩ (.string ((rd_T38 l0_4 x6_3).f0))).setCell ⟨gb407, 1, none⟩ (.string ((rd_T38 l0_4 x6_3).f1)))) := ⟨by repeat (first | (with_reducible first | exact HB.out | apply below_alloc | apply pw_below_drewN | apply below_drew1 | refine below_set ?_ GE402.out | refine below_set ?_ GE407.out) | exact HB.out)⟩
                (try clear BK402)
                (try clear BK407)
                (try clear HB)
                generalize ((w26.setCell ⟨gb407, 0, none⟩ (.string ((rd_T38 l0_4 x6_3).f0))).setCell ⟨gb407, 1, none⟩ (.string ((rd_T38 l0_4 x6_3).f1))) = w37 at n0_ n1_ n2_ ⊢
                have BK402 := n0_
                have BK407 := n1_
                have HB := n2_
                clear n0_ n1_ n2_
                have n0_ := Aside0.mk (blk_drew BK402.out)
                have n1_ := Aside0.mk (blk_drew BK407.out)
                have n2_ := Aside0.mk (below_drew1 HB.out)
                clear BK402
                clear BK407
                clear HB
                have BK402 := n0_
                have BK407 := n1_
                have HB := n2_
                clear n0_ n1_ n2_
                refine start_ (n := 18) (S := fun w' => w'.cell? ⟨gb407, 0, none⟩ = some (.string ((rd_T38 l0_4 x6_3).f0)) ∧ w'.cell? ⟨gb407, 1, none⟩ = some (.string ((rd_T38 l0_4 x6_3).f1))) (ds := []) #[false, false, false, false, false, false, false, false, false, false, false, false, false, false, false, false, false, false] (by kernel_rfl) rfl rfl ⟨(blk_cell BK407.out 0).trans rfl, (blk_cell BK407.out 1).trans rfl⟩ (fun hHeld => ?_); refine with_tabW tollgateref09_Write.tab12 tollgateref09_Write.bits12 (fun HT_ HW_ => ?_)
                generalize w37.drew = w38 at BK402 BK407 HB hHeld ⊢
                refine pure_ (i := 0) (N := some 54) (v := ?_) (a' := ?_) #[true, false, false, false, false, false, false, false, false, false, false, false, false, false, false, false, false, false] rfl rfl (any_of HT_.out (by kernel_rfl)) (fun _ _ _ h => h) (Or.inl ⟨by rfl, ?_⟩) ?_ ?_
                rotate_left
                ·intro w'
                 go_simp
                 with_reducible rfl
                rotate_left
                ·simp only [Act.put, List.setIfInBounds_toArray, List.set_cons_zero, List.set_cons_succ, i64_w, i32_w]
                 rfl
                refine take_ (i := 1) (N := some 55) (v := ?_) (a' := ?_) #[true, true, false, false, false, false, false, false, false, false, false, false, false, false, false, false, false, false] rfl rfl (take_ofW HT_.out HW_.out (by kernel_rfl)) (fun _ _ _ h => h) (Or.inl ⟨by rfl, ?_⟩) hHeld ?_ ?_
                rotate_left
                ·rintro w' ⟨s0, s1⟩
                 go_simp
                 with_reducible rfl
                rotate_left
                ·simp only [Act.put, List.setIfInBounds_toArray, List.set_cons_zero, List.set_cons_succ, i64_w, i32_w]
                 rfl
                refine one_ (i := 2) (N := some 56) #[true, true, true, false, false, false, false, false, false, false, false, false, false, false, false, false, false, false] rfl rfl (one_of HT_.out (by kernel_rfl)) (by decide) (fun K hK => ?_)
                refine goes_ Tryd.func46 (by kernel_rfl) rfl #[.string ((rd_T38 l0_4 x6_3).f0)] (by rfl) rfl rfl (by (try simp only [List.map_toArray, List.map_cons, List.map_nil]); first | done | rfl | (simp only [List.length_drop, List.length_take]; rfl)) ?_
                with_reducible refine (tollgateref09_Token.calls k3 ((rd_T38 l0_4 x6_3).f0) true _ A29.out).mono ?_
                rintro e w' ⟨rfl, ⟨nd, rfl⟩⟩
                refine ⟨_, rfl, ?_⟩
                refine hK.out _ _ ⟨(blk_cell BK407.out 0).trans rfl, (blk_cell BK407.out 1).trans rfl⟩ (fun hHeld => ?_)
                clear hK K
                refine norm_ (a' := ?_) ?_ ?_
                rotate_left
                ·show Act.put _ (some 56) _ = _
                 simp only [Act.put, List.setIfInBounds_toArray, List.set_cons_zero, List.set_cons_succ, i64_w, i32_w]
                 rfl
                refine pure_ (i := 3) (N := some 57) (v := ?_) (a' := ?_) #[true, true, true, true, false, false, false, false, false, false, false, false, false, false, false, false, false, false] rfl rfl (any_of HT_.out (by kernel_rfl)) (fun _ _ _ h => h) (Or.inl ⟨by rfl, ?_⟩) ?_ ?_
                rotate_left
                ·intro w'
                 go_simp
                 with_reducible rfl
                rotate_left
                ·simp only [Act.put, List.setIfInBounds_toArray, List.set_cons_zero, List.set_cons_succ, i64_w, i32_w]
                 rfl
                refine pure_ (i := 4) (N := some 58) (v := ?_) (a' := ?_) #[true, true, true, true, true, false, false, false, false, false, false, false, false, false, false, false, false, false] rfl rfl (any_of HT_.out (by kernel_rfl)) (fun _ _ _ h => h) (Or.inl ⟨by rfl, ?_⟩) ?_ ?_
                rotate_left
                ·intro w'
                 go_simp
                 with_reducible rfl
                rotate_left
                ·simp only [Act.put, List.setIfInBounds_toArray, List.set_cons_zero, List.set_cons_succ, i64_w, i32_w]
                 rfl
                refine pure_ (i := 5) (N := some 59) (v := ?_) (a' := ?_) #[true, true, true, true, true, true, false, false, false, false, false, false, false, false, false, false, false, false] rfl rfl (any_of HT_.out (by kernel_rfl)) (fun _ _ _ h => h) (Or.inl ⟨by rfl, ?_⟩) ?_ ?_
                rotate_left
                ·intro w'
                 go_simp
                 with_reducible rfl
                rotate_left
                ·simp only [Act.put, List.setIfInBounds_toArray, List.set_cons_zero, List.set_cons_succ, i64_w, i32_w]
                 rfl
                refine pure_ (i := 8) (N := some 62) (v := ?_) (a' := ?_) #[true, true, true, true, true, true, false, false, true, false, false, false, false, false, false, false, false, false] rfl rfl (any_of HT_.out (by kernel_rfl)) (fun _ _ _ h => h) (Or.inl ⟨by rfl, ?_⟩) ?_ ?_
                rotate_left
                ·intro w'
                 go_simp
                 with_reducible rfl
                rotate_left
                ·simp only [Act.put, List.setIfInBounds_toArray, List.set_cons_zero, List.set_cons_succ, i64_w, i32_w]
                 rfl
                refine take_ (i := 6) (N := some 60) (v := ?_) (a' := ?_) #[true, true, true, true, true, true, true, false, true, false, false, false, false, false, false, false, false, false] rfl rfl (take_ofW HT_.out HW_.out (by kernel_rfl)) (fun _ _ _ h => h) (Or.inl ⟨by rfl, ?_⟩) hHeld ?_ ?_
                rotate_left
                ·rintro w' ⟨s0, s1⟩
                 go_simp
                 with_reducible rfl
                rotate_left
                ·simp only [Act.put, List.setIfInBounds_toArray, List.set_cons_zero, List.set_cons_succ, i64_w, i32_w]
                 rfl
                refine take_ (i := 9) (N := some 63) (v := ?_) (a' := ?_) #[true, true, true, true, true, true, true, false, true, true, false, false, false, false, false, false, false, false] rfl rfl (take_ofW HT_.out HW_.out (by kernel_rfl)) (fun _ _ _ h => h) (Or.inl ⟨by rfl, ?_⟩) hHeld ?_ ?_
                rotate_left
                ·rintro w' ⟨s0, s1⟩
                 go_simp
                 with_reducible rfl
                rotate_left
                ·simp only [Act.put, List.setIfInBounds_toArray, List.set_cons_zero, List.set_cons_succ, i64_w, i32_w]
                 rfl
                refine one_ (i := 7) (N := some 61) #[true, true, true, true, true, true, true, true, true, true, false, false, false, false, false, false, false, false] rfl rfl (one_of HT_.out (by kernel_rfl)) (by decide) (fun K hK => ?_)
                refine goes_ Tryd.func48 (by kernel_rfl) rfl #[.string ((rd_T38 l0_4 x6_3).f0)] (by rfl) rfl rfl (by (try simp only [List.map_toArray, List.map_cons, List.map_nil]); first | done | rfl | (simp only [List.length_drop, List.length_take]; rfl)) ?_
                with_reducible refine (tollgateref09_Lower.calls k3 ((rd_T38 l0_4 x6_3).f0) t409 _ A31.out).mono ?_
                rintro e w39 ⟨rfl, hb⟩
                refine ⟨_, rfl, ?_⟩
                have n0_ := Aside0.mk (blk_below (g := gb402) (o := .cells #[.string a0_0, .string a0_1, .string a0_2, .string a0_3, .slice (some ad406) l0_4.length c0_4] 25 (0, 0)) (by (with_reducible repeat (first | refine blk_drewN ?_ _ | refine blk_drew ?_ | refine blk_alloc ?_ _)); exact BK402.out) hb)
                have n1_ := Aside0.mk (blk_below (g := gb407) (o := .cells #[.string ((rd_T38 l0_4 x6_3).f0), .string ((rd_T38 l0_4 x6_3).f1)] 38 (0, 0)) (by (with_reducible repeat (first | refine blk_drewN ?_ _ | refine blk_drew ?_ | refine blk_alloc ?_ _)); exact BK407.out) hb)
                have n2_ := Aside0.mk (below_step (by repeat (first | (with_reducible first | exact HB.out | apply below_alloc | apply pw_below_drewN | apply below_drew1 | refine below_set ?_ GE402.out | refine below_set ?_ GE407.out) | exact HB.out)) hb)
                clear BK402
                clear BK407
                clear HB
                have BK402 := n0_
                have BK407 := n1_
                have HB := n2_
                clear n0_ n1_ n2_
                (try clear hb)
                (try clear hb2)
                (try clear hk)
                (try clear hi)
                refine hK.out _ _ ⟨(blk_cell BK407.out 0).trans rfl, (blk_cell BK407.out 1).trans rfl⟩ (fun hHeld => ?_)
                clear hK K
                refine norm_ (a' := ?_) ?_ ?_
                rotate_left
                ·show Act.put _ (some 61) _ = _
                 simp only [Act.put, List.setIfInBounds_toArray, List.set_cons_zero, List.set_cons_succ, i64_w, i32_w]
                 rfl
                refine pure_ (i := 10) (N := some 64) (v := ?_) (a' := ?_) #[true, true, true, true, true, true, true, true, true, true, true, false, false, false, false, false, false, false] rfl rfl (any_of HT_.out (by kernel_rfl)) (fun _ _ _ h => h) (Or.inl ⟨by rfl, ?_⟩) ?_ ?_
                rotate_left
                ·intro w'
                 go_simp
                 with_reducible rfl
                rotate_left
                ·simp only [Act.put, List.setIfInBounds_toArray, List.set_cons_zero, List.set_cons_succ, i64_w, i32_w]
                 rfl
                refine pure_ (i := 11) (N := some 65) (v := ?_) (a' := ?_) #[true, true, true, true, true, true, true, true, true, true, true, true, false, false, false, false, false, false] rfl rfl (any_of HT_.out (by kernel_rfl)) (fun _ _ _ h => h) (Or.inl ⟨by rfl, ?_⟩) ?_ ?_
                rotate_left
                ·intro w'
                 go_simp
                 with_reducible rfl
                rotate_left
                ·simp only [Act.put, List.setIfInBounds_toArray, List.set_cons_zero, List.set_cons_succ, i64_w, i32_w]
                 rfl
                refine pure_ (i := 12) (N := some 66) (v := ?_) (a' := ?_) #[true, true, true, true, true, true, true, true, true, true, true, true, true, false, false, false, false, false] rfl rfl (any_of HT_.out (by kernel_rfl)) (fun _ _ _ h => h) (Or.inl ⟨by rfl, ?_⟩) ?_ ?_
                rotate_left
                ·intro w'
                 go_simp
                 with_reducible rfl
                rotate_left
                ·simp only [Act.put, List.setIfInBounds_toArray, List.set_cons_zero, List.set_cons_succ, i64_w, i32_w]
                 rfl
                refine pure_ (i := 13) (N := some 67) (v := undef) (a' := ?_) #[true, true, true, true, true, true, true, true, true, true, true, true, true, true, false, false, false, false] rfl rfl (any_of HT_.out (by kernel_rfl)) (fun _ _ _ h => h) (Or.inr ⟨by rfl, rfl⟩) ?_ ?_
                rotate_left
                ·simp only [Act.put, List.setIfInBounds_toArray, List.set_cons_zero, List.set_cons_succ, i64_w, i32_w]
                 rfl
                refine pure_ (i := 14) (N := some 68) (v := undef) (a' := ?_) #[true, true, true, true, true, true, true, true, true, true, true, true, true, true, true, false, false, false] rfl rfl (any_of HT_.out (by kernel_rfl)) (fun _ _ _ h => h) (Or.inr ⟨by rfl, rfl⟩) ?_ ?_
                rotate_left
                ·simp only [Act.put, List.setIfInBounds_toArray, List.set_cons_zero, List.set_cons_succ, i64_w, i32_w]
                 rfl
                refine pure_ (i := 15) (N := some 69) (v := undef) (a' := ?_) #[true, true, true, true, true, true, true, true, true, true, true, true, true, true, true, true, false, false] rfl rfl (any_of HT_.out (by kernel_rfl)) (fun _ _ _ h => h) (Or.inr ⟨by rfl, rfl⟩) ?_ ?_
                rotate_left
                ·simp only [Act.put, List.setIfInBounds_toArray, List.set_cons_zero, List.set_cons_succ, i64_w, i32_w]
                 rfl
                refine pure_ (i := 16) (N := some 70) (v := undef) (a' := ?_) #[true, true, true, true, true, true, true, true, true, true, true, true, true, true, true, true, true, false] rfl rfl (any_of HT_.out (by kernel_rfl)) (fun _ _ _ h => h) (Or.inr ⟨by rfl, rfl⟩) ?_ ?_
                rotate_left
                ·simp only [Act.put, List.setIfInBounds_toArray, List.set_cons_zero, List.set_cons_succ, i64_w, i32_w]
                 rfl
                refine pure_ (i := 17) (N := some 71) (v := ?_) (a' := ?_) #[true, true, true, true, true, true, true, true, true, true, true, true, true, true, true, true, true, true] rfl rfl (any_of HT_.out (by kernel_rfl)) (fun _ _ _ h => h) (Or.inl ⟨by rfl, ?_⟩) ?_ ?_
                rotate_left
                ·intro w'
                 go_simp
                 with_reducible rfl
                rotate_left
                ·simp only [Act.put, List.setIfInBounds_toArray, List.set_cons_zero, List.set_cons_succ, i64_w, i32_w]
                 rfl
                refine done_ (done_of HT_.out (by kernel_rfl)) ?_
                try go_wp2
                go_meet
                case rel => exact ⟨_, (true), (by first | rfl | (simp; done) | (simp [*]; done)), H', ⟨by have := HJ1.out; have := HJ14.out; have := HK3.out; first | omega | exact Nat.le_refl _⟩, ⟨by (with_reducible repeat (first | refine blk_drewN ?_ _ | refine blk_drew ?_ | refine blk_alloc ?_ _)); exact BK402.out⟩, ⟨by (with_reducible repeat (first | refine blk_drewN ?_ _ | refine blk_drew ?_ | refine blk_alloc ?_ _)); exact BK407.out⟩, ⟨by repeat (first | (with_reducible first | exact HB.out | apply below_alloc | apply pw_below_drewN | apply below_drew1 | refine below_set ?_ GE402.out | refine below_set ?_ GE407.out) | exact HB.out)⟩⟩
              ·replace c30 := Bool.eq_false_iff.mpr c30
               subst c30
               have H1 : (tollgateref09_Write.j3 k3 x4_3 x5_3 x6_3 true a0_0 a0_1 a0_2 a0_3 l0_4 ((rd_T38 l0_4 x6_3).f0) ((rd_T38 l0_4 x6_3).f1)) = some (r1, r2) := by rw [if_neg (show ¬ (false = true) by decide)] at H; exact H
               clear H
               have H := H1
               clear H1
               have H' := Aside0.mk H
               clear H
               try go_wp2
               have n0_ : Aside0 (((w26.setCell ⟨gb407, 0, none⟩ (.string ((rd_T38 l0_4 x6_3).f0))).setCell ⟨gb407, 1, none⟩ (.string ((rd_T38 l0_4 x6_3).f1))).heap[gb402]? = some (.cells #[.string a0_0, .string a0_1, .string a0_2, .string a0_3, .slice (some ad406) l0_4.length c0_4] 25 (0, 0))) := ⟨by (with_reducible repeat (first | refine blk_drewN ?_ _ | refine blk_drew ?_ | refine blk_alloc ?_ _)); refine blk_far ?_ NB402_407.out _; (with_reducible repeat (first | refine blk_drewN ?_ _ | refine blk_drew ?_ | refine blk_alloc ?_ _)); refine blk_far ?_ NB402_407.out _; (with_reducible repeat (first | refine blk_drewN ?_ _ | refine blk_drew ?_ | refine blk_alloc ?_ _)); exact BK402.out⟩
               have n1_ : Aside0 (((w26.setCell ⟨gb407, 0, none⟩ (.string ((rd_T38 l0_4 x6_3).f0))).setCell ⟨gb407, 1, none⟩ (.string ((rd_T38 l0_4 x6_3).f1))).heap[gb407]? = some (.cells #[.string ((rd_T38 l0_4 x6_3).f0), .string ((rd_T38 l0_4 x6_3).f1)] 38 (0, 0))) := ⟨by (with_reducible repeat (first | refine blk_drewN ?_ _ | refine blk_drew ?_ | refine blk_alloc ?_ _)); refine blk_put (cs := #[.string ((rd_T38 l0_4 x6_3).f0), .string (⟨#[]⟩ : ByteArray)]) ?_ 1 _ rfl; (with_reducible repeat (first | refine blk_drewN ?_ _ | refine blk_drew ?_ | refine blk_alloc ?_ _)); refine blk_put (cs := #[.string (⟨#[]⟩ : ByteArray), .string (⟨#[]⟩ : ByteArray)]) ?_ 0 _ rfl; (with_reducible repeat (first | refine blk_drewN ?_ _ | refine blk_drew ?_ | refine blk_alloc ?_ _)); exact BK407.out⟩
               have n2_ : Aside0 (Below w.heap.size w ((w26.setCell ⟨gb407, 0, none⟩ (.string ((rd_T38 l0_4 x6_3).f0))).setCell ⟨gb407, 1, none⟩ (.string ((rd_T38 l0_4 x6_3).f1)))) := ⟨by repeat (first | (with_reducible first | exact HB.out | apply below_alloc | apply pw_below_drewN | apply below_drew1 | refine below_set ?_ GE402.out | refine below_set ?_ GE407.out) | exact HB.out)⟩
               (try clear BK402)
               (try clear BK407)
               (try clear HB)
               generalize ((w26.setCell ⟨gb407, 0, none⟩ (.string ((rd_T38 l0_4 x6_3).f0))).setCell ⟨gb407, 1, none⟩ (.string ((rd_T38 l0_4 x6_3).f1))) = w40 at n0_ n1_ n2_ ⊢
               have BK402 := n0_
               have BK407 := n1_
               have HB := n2_
               clear n0_ n1_ n2_
               have n0_ := Aside0.mk (blk_drew BK402.out)
               have n1_ := Aside0.mk (blk_drew BK407.out)
               have n2_ := Aside0.mk (below_drew1 HB.out)
               clear BK402
               clear BK407
               clear HB
               have BK402 := n0_
               have BK407 := n1_
               have HB := n2_
               clear n0_ n1_ n2_
               refine start_ (n := 18) (S := fun w' => w'.cell? ⟨gb407, 0, none⟩ = some (.string ((rd_T38 l0_4 x6_3).f0)) ∧ w'.cell? ⟨gb407, 1, none⟩ = some (.string ((rd_T38 l0_4 x6_3).f1))) (ds := []) #[false, false, false, false, false, false, false, false, false, false, false, false, false, false, false, false, false, false] (by kernel_rfl) rfl rfl ⟨(blk_cell BK407.out 0).trans rfl, (blk_cell BK407.out 1).trans rfl⟩ (fun hHeld => ?_); refine with_tabW tollgateref09_Write.tab12 tollgateref09_Write.bits12 (fun HT_ HW_ => ?_)
               generalize w40.drew = w41 at BK402 BK407 HB hHeld ⊢
               refine pure_ (i := 0) (N := some 54) (v := ?_) (a' := ?_) #[true, false, false, false, false, false, false, false, false, false, false, false, false, false, false, false, false, false] rfl rfl (any_of HT_.out (by kernel_rfl)) (fun _ _ _ h => h) (Or.inl ⟨by rfl, ?_⟩) ?_ ?_
               rotate_left
               ·intro w'
                go_simp
                with_reducible rfl
               rotate_left
               ·simp only [Act.put, List.setIfInBounds_toArray, List.set_cons_zero, List.set_cons_succ, i64_w, i32_w]
                rfl
               refine take_ (i := 1) (N := some 55) (v := ?_) (a' := ?_) #[true, true, false, false, false, false, false, false, false, false, false, false, false, false, false, false, false, false] rfl rfl (take_ofW HT_.out HW_.out (by kernel_rfl)) (fun _ _ _ h => h) (Or.inl ⟨by rfl, ?_⟩) hHeld ?_ ?_
               rotate_left
               ·rintro w' ⟨s0, s1⟩
                go_simp
                with_reducible rfl
               rotate_left
               ·simp only [Act.put, List.setIfInBounds_toArray, List.set_cons_zero, List.set_cons_succ, i64_w, i32_w]
                rfl
               refine one_ (i := 2) (N := some 56) #[true, true, true, false, false, false, false, false, false, false, false, false, false, false, false, false, false, false] rfl rfl (one_of HT_.out (by kernel_rfl)) (by decide) (fun K hK => ?_)
               refine goes_ Tryd.func46 (by kernel_rfl) rfl #[.string ((rd_T38 l0_4 x6_3).f0)] (by rfl) rfl rfl (by (try simp only [List.map_toArray, List.map_cons, List.map_nil]); first | done | rfl | (simp only [List.length_drop, List.length_take]; rfl)) ?_
               with_reducible refine (tollgateref09_Token.calls k3 ((rd_T38 l0_4 x6_3).f0) false _ A29.out).mono ?_
               rintro e w' ⟨rfl, ⟨nd, rfl⟩⟩
               refine ⟨_, rfl, ?_⟩
               refine hK.out _ _ ⟨(blk_cell BK407.out 0).trans rfl, (blk_cell BK407.out 1).trans rfl⟩ (fun hHeld => ?_)
               clear hK K
               refine norm_ (a' := ?_) ?_ ?_
               rotate_left
               ·show Act.put _ (some 56) _ = _
                simp only [Act.put, List.setIfInBounds_toArray, List.set_cons_zero, List.set_cons_succ, i64_w, i32_w]
                rfl
               refine pure_ (i := 3) (N := some 57) (v := ?_) (a' := ?_) #[true, true, true, true, false, false, false, false, false, false, false, false, false, false, false, false, false, false] rfl rfl (any_of HT_.out (by kernel_rfl)) (fun _ _ _ h => h) (Or.inl ⟨by rfl, ?_⟩) ?_ ?_
               rotate_left
               ·intro w'
                go_simp
                with_reducible rfl
               rotate_left
               ·simp only [Act.put, List.setIfInBounds_toArray, List.set_cons_zero, List.set_cons_succ, i64_w, i32_w]
                rfl
               refine pure_ (i := 4) (N := some 58) (v := ?_) (a' := ?_) #[true, true, true, true, true, false, false, false, false, false, false, false, false, false, false, false, false, false] rfl rfl (any_of HT_.out (by kernel_rfl)) (fun _ _ _ h => h) (Or.inl ⟨by rfl, ?_⟩) ?_ ?_
               rotate_left
               ·intro w'
                go_simp
                with_reducible rfl
               rotate_left
               ·simp only [Act.put, List.setIfInBounds_toArray, List.set_cons_zero, List.set_cons_succ, i64_w, i32_w]
                rfl
               refine pure_ (i := 5) (N := some 59) (v := undef) (a' := ?_) #[true, true, true, true, true, true, false, false, false, false, false, false, false, false, false, false, false, false] rfl rfl (any_of HT_.out (by kernel_rfl)) (fun _ _ _ h => h) (Or.inr ⟨by rfl, rfl⟩) ?_ ?_
               rotate_left
               ·simp only [Act.put, List.setIfInBounds_toArray, List.set_cons_zero, List.set_cons_succ, i64_w, i32_w]
                rfl
               refine pure_ (i := 6) (N := some 60) (v := undef) (a' := ?_) #[true, true, true, true, true, true, true, false, false, false, false, false, false, false, false, false, false, false] rfl rfl (any_of HT_.out (by kernel_rfl)) (fun _ _ _ h => h) (Or.inr ⟨by rfl, rfl⟩) ?_ ?_
               rotate_left
               ·simp only [Act.put, List.setIfInBounds_toArray, List.set_cons_zero, List.set_cons_succ, i64_w, i32_w]
                rfl
               refine pure_ (i := 7) (N := some 61) (v := undef) (a' := ?_) #[true, true, true, true, true, true, true, true, false, false, false, false, false, false, false, false, false, false] rfl rfl (any_of HT_.out (by kernel_rfl)) (fun _ _ _ h => h) (Or.inr ⟨by rfl, rfl⟩) ?_ ?_
               rotate_left
               ·simp only [Act.put, List.setIfInBounds_toArray, List.set_cons_zero, List.set_cons_succ, i64_w, i32_w]
                rfl
               refine pure_ (i := 8) (N := some 62) (v := undef) (a' := ?_) #[true, true, true, true, true, true, true, true, true, false, false, false, false, false, false, false, false, false] rfl rfl (any_of HT_.out (by kernel_rfl)) (fun _ _ _ h => h) (Or.inr ⟨by rfl, rfl⟩) ?_ ?_
               rotate_left
               ·simp only [Act.put, List.setIfInBounds_toArray, List.set_cons_zero, List.set_cons_succ, i64_w, i32_w]
                rfl
               refine pure_ (i := 9) (N := some 63) (v := undef) (a' := ?_) #[true, true, true, true, true, true, true, true, true, true, false, false, false, false, false, false, false, false] rfl rfl (any_of HT_.out (by kernel_rfl)) (fun _ _ _ h => h) (Or.inr ⟨by rfl, rfl⟩) ?_ ?_
               rotate_left
               ·simp only [Act.put, List.setIfInBounds_toArray, List.set_cons_zero, List.set_cons_succ, i64_w, i32_w]
                rfl
               refine pure_ (i := 10) (N := some 64) (v := undef) (a' := ?_) #[true, true, true, true, true, true, true, true, true, true, true, false, false, false, false, false, false, false] rfl rfl (any_of HT_.out (by kernel_rfl)) (fun _ _ _ h => h) (Or.inr ⟨by rfl, rfl⟩) ?_ ?_
               rotate_left
               ·simp only [Act.put, List.setIfInBounds_toArray, List.set_cons_zero, List.set_cons_succ, i64_w, i32_w]
                rfl
               refine pure_ (i := 11) (N := some 65) (v := ?_) (a' := ?_) #[true, true, true, true, true, true, true, true, true, true, true, true, false, false, false, false, false, false] rfl rfl (any_of HT_.out (by kernel_rfl)) (fun _ _ _ h => h) (Or.inl ⟨by rfl, ?_⟩) ?_ ?_
               rotate_left
               ·intro w'
                go_simp
                with_reducible rfl
               rotate_left
               ·simp only [Act.put, List.setIfInBounds_toArray, List.set_cons_zero, List.set_cons_succ, i64_w, i32_w]
                rfl
               refine pure_ (i := 12) (N := some 66) (v := ?_) (a' := ?_) #[true, true, true, true, true, true, true, true, true, true, true, true, true, false, false, false, false, false] rfl rfl (any_of HT_.out (by kernel_rfl)) (fun _ _ _ h => h) (Or.inl ⟨by rfl, ?_⟩) ?_ ?_
               rotate_left
               ·intro w'
                go_simp
                with_reducible rfl
               rotate_left
               ·simp only [Act.put, List.setIfInBounds_toArray, List.set_cons_zero, List.set_cons_succ, i64_w, i32_w]
                rfl
               refine pure_ (i := 13) (N := some 67) (v := undef) (a' := ?_) #[true, true, true, true, true, true, true, true, true, true, true, true, true, true, false, false, false, false] rfl rfl (any_of HT_.out (by kernel_rfl)) (fun _ _ _ h => h) (Or.inr ⟨by rfl, rfl⟩) ?_ ?_
               rotate_left
               ·simp only [Act.put, List.setIfInBounds_toArray, List.set_cons_zero, List.set_cons_succ, i64_w, i32_w]
                rfl
               refine pure_ (i := 14) (N := some 68) (v := undef) (a' := ?_) #[true, true, true, true, true, true, true, true, true, true, true, true, true, true, true, false, false, false] rfl rfl (any_of HT_.out (by kernel_rfl)) (fun _ _ _ h => h) (Or.inr ⟨by rfl, rfl⟩) ?_ ?_
               rotate_left
               ·simp only [Act.put, List.setIfInBounds_toArray, List.set_cons_zero, List.set_cons_succ, i64_w, i32_w]
                rfl
               refine pure_ (i := 15) (N := some 69) (v := undef) (a' := ?_) #[true, true, true, true, true, true, true, true, true, true, true, true, true, true, true, true, false, false] rfl rfl (any_of HT_.out (by kernel_rfl)) (fun _ _ _ h => h) (Or.inr ⟨by rfl, rfl⟩) ?_ ?_
               rotate_left
               ·simp only [Act.put, List.setIfInBounds_toArray, List.set_cons_zero, List.set_cons_succ, i64_w, i32_w]
                rfl
               refine pure_ (i := 16) (N := some 70) (v := undef) (a' := ?_) #[true, true, true, true, true, true, true, true, true, true, true, true, true, true, true, true, true, false] rfl rfl (any_of HT_.out (by kernel_rfl)) (fun _ _ _ h => h) (Or.inr ⟨by rfl, rfl⟩) ?_ ?_
               rotate_left
               ·simp only [Act.put, List.setIfInBounds_toArray, List.set_cons_zero, List.set_cons_succ, i64_w, i32_w]
                rfl
               refine pure_ (i := 17) (N := some 71) (v := ?_) (a' := ?_) #[true, true, true, true, true, true, true, true, true, true, true, true, true, true, true, true, true, true] rfl rfl (any_of HT_.out (by kernel_rfl)) (fun _ _ _ h => h) (Or.inl ⟨by rfl, ?_⟩) ?_ ?_
               rotate_left
               ·intro w'
                go_simp
                with_reducible rfl
               rotate_left
               ·simp only [Act.put, List.setIfInBounds_toArray, List.set_cons_zero, List.set_cons_succ, i64_w, i32_w]
                rfl
               refine done_ (done_of HT_.out (by kernel_rfl)) ?_
               try go_wp2
               go_meet
               case rel => exact ⟨_, (true), (by first | rfl | (simp; done) | (simp [*]; done)), H', ⟨by have := HJ1.out; have := HJ14.out; have := HK3.out; first | omega | exact Nat.le_refl _⟩, ⟨by (with_reducible repeat (first | refine blk_drewN ?_ _ | refine blk_drew ?_ | refine blk_alloc ?_ _)); exact BK402.out⟩, ⟨by (with_reducible repeat (first | refine blk_drewN ?_ _ | refine blk_drew ?_ | refine blk_alloc ?_ _)); exact BK407.out⟩, ⟨by repeat (first | (with_reducible first | exact HB.out | apply below_alloc | apply pw_below_drewN | apply below_drew1 | refine below_set ?_ GE402.out | refine below_set ?_ GE407.out) | exact HB.out)⟩⟩
             case rest =>
              clear HC24
              try clear c22
              try clear c22b0
              try clear c23
              try clear c23b0
              try clear hcz25_0
              try clear hcz25_1
              try clear hcz25_2
              try clear hcz25_3
              try clear hcz25_4
              try clear hcz28_0
              try clear hcz28_1
              try clear hfz25_0
              try clear hfz25_1
              try clear hfz25_2
              try clear hfz25_3
              try clear hfz25_4
              try clear hfz28_0
              try clear hfz28_1
              try clear hx406_0
              try clear hx406_1
              try clear p406
              try clear q406
              obtain ⟨kq, x71_23, rfl, HA, HJ23, BK402, BK407, HB⟩ := hcut
              cases kq with
              | zero => exact absurd HA.out (by simp [tollgateref09_Write.j3])
              | succ kj23 =>
               have H := HA.out
               clear HA
               simp only [tollgateref09_Write.j3] at H
               by_cases c42 : x71_23 = true
               ·subst c42
                have H1 : (some (([] : List Int), 4)) = some (r1, r2) := by rw [if_pos rfl] at H; exact H
                clear H
                have H := H1
                clear H1
                simp only [Option.some.injEq, Prod.mk.injEq] at H
                obtain ⟨rfl, rfl⟩ := H
                go_wp2
                go_ret2
                exact ⟨.slice none 0 0, by first | rfl | (simp [errW_none, errW_some] <;> rfl) | (simp [*, errW_none, errW_some] <;> rfl), Kd.V_nil _ _ _ _ _, by repeat (first | (with_reducible first | exact HB.out | apply below_alloc | apply pw_below_drewN | apply below_drew1 | refine below_set ?_ GE402.out | refine below_set ?_ GE407.out) | exact HB.out)⟩
               ·replace c42 := Bool.eq_false_iff.mpr c42
                subst c42
                have H1 : (if ((rd_T38 l0_4 x6_3).f0).toList = ([104, 111, 115, 116] : List UInt8) then ((tollgateref09_Host.f kj23 ((rd_T38 l0_4 x6_3).f1)).bind fun bt411 => (if bt411.2 = true then (if bt411.1.toList = a0_3.toList then (if ((rd_T38 l0_4 x6_3).f0).size + 2 ≤ 9223372036854775807 then (if (((rd_T38 l0_4 x6_3).f0) ++ (⟨#[58, 32]⟩ : ByteArray)).size + ((rd_T38 l0_4 x6_3).f1).size ≤ 9223372036854775807 then (if ((((rd_T38 l0_4 x6_3).f0) ++ (⟨#[58, 32]⟩ : ByteArray)) ++ ((rd_T38 l0_4 x6_3).f1)).size + 2 ≤ 9223372036854775807 then (if x4_3.size + (((((rd_T38 l0_4 x6_3).f0) ++ (⟨#[58, 32]⟩ : ByteArray)) ++ ((rd_T38 l0_4 x6_3).f1)) ++ (⟨#[13, 10]⟩ : ByteArray)).size ≤ 9223372036854775807 then (tollgateref09_Write.l0 kj23 (x4_3 ++ (((((rd_T38 l0_4 x6_3).f0) ++ (⟨#[58, 32]⟩ : ByteArray)) ++ ((rd_T38 l0_4 x6_3).f1)) ++ (⟨#[13, 10]⟩ : ByteArray))) (wrap64 (x5_3 + 1)) (wrap64 (x6_3 + 1)) a0_0 a0_1 a0_2 a0_3 l0_4) else (none)) else (none)) else (none)) else (none)) else (some (([] : List Int), 4))) else (some (([] : List Int), 4)))) else (if ((rd_T38 l0_4 x6_3).f0).size + 2 ≤ 9223372036854775807 then (if (((rd_T38 l0_4 x6_3).f0) ++ (⟨#[58, 32]⟩ : ByteArray)).size + ((rd_T38 l0_4 x6_3).f1).size ≤ 9223372036854775807 then (if ((((rd_T38 l0_4 x6_3).f0) ++ (⟨#[58, 32]⟩ : ByteArray)) ++ ((rd_T38 l0_4 x6_3).f1)).size + 2 ≤ 9223372036854775807 then (if x4_3.size + (((((rd_T38 l0_4 x6_3).f0) ++ (⟨#[58, 32]⟩ : ByteArray)) ++ ((rd_T38 l0_4 x6_3).f1)) ++ (⟨#[13, 10]⟩ : ByteArray)).size ≤ 9223372036854775807 then (tollgateref09_Write.l0 kj23 (x4_3 ++ (((((rd_T38 l0_4 x6_3).f0) ++ (⟨#[58, 32]⟩ : ByteArray)) ++ ((rd_T38 l0_4 x6_3).f1)) ++ (⟨#[13, 10]⟩ : ByteArray))) x5_3 (wrap64 (x6_3 + 1)) a0_0 a0_1 a0_2 a0_3 l0_4) else (none)) else (none)) else (none)) else (none))) = some (r1, r2) := by rw [if_neg (show ¬ (false = true) by decide)] at H; exact H
                clear H
                have H := H1
                clear H1
                by_cases c43 : ((rd_T38 l0_4 x6_3).f0).toList = ([104, 111, 115, 116] : List UInt8)
                ·rw [if_pos c43] at H
                 have c43b0 : (((rd_T38 l0_4 x6_3).f0).toList == ([104, 111, 115, 116] : List UInt8)) = true := beq_iff_eq.mpr c43
                 have c43b1 : (((rd_T38 l0_4 x6_3).f0).toList != ([104, 111, 115, 116] : List UInt8)) = false := bne_eq_false_iff_eq.mpr c43
                 clear c43
                 replace H := Option.bind_eq_some_iff.mp H
                 obtain ⟨⟨t411, t412⟩, A440, H⟩ := H
                 replace H : (if t412 = true then (if t411.toList = a0_3.toList then (if ((rd_T38 l0_4 x6_3).f0).size + 2 ≤ 9223372036854775807 then (if (((rd_T38 l0_4 x6_3).f0) ++ (⟨#[58, 32]⟩ : ByteArray)).size + ((rd_T38 l0_4 x6_3).f1).size ≤ 9223372036854775807 then (if ((((rd_T38 l0_4 x6_3).f0) ++ (⟨#[58, 32]⟩ : ByteArray)) ++ ((rd_T38 l0_4 x6_3).f1)).size + 2 ≤ 9223372036854775807 then (if x4_3.size + (((((rd_T38 l0_4 x6_3).f0) ++ (⟨#[58, 32]⟩ : ByteArray)) ++ ((rd_T38 l0_4 x6_3).f1)) ++ (⟨#[13, 10]⟩ : ByteArray)).size ≤ 9223372036854775807 then (tollgateref09_Write.l0 kj23 (x4_3 ++ (((((rd_T38 l0_4 x6_3).f0) ++ (⟨#[58, 32]⟩ : ByteArray)) ++ ((rd_T38 l0_4 x6_3).f1)) ++ (⟨#[13, 10]⟩ : ByteArray))) (wrap64 (x5_3 + 1)) (wrap64 (x6_3 + 1)) a0_0 a0_1 a0_2 a0_3 l0_4) else (none)) else (none)) else (none)) else (none)) else (some (([] : List Int), 4))) else (some (([] : List Int), 4))) = some (r1, r2) := H
                 have A44 := Aside0.mk A440
                 clear A440
                 by_cases c45 : t412 = true
                 ·subst c45
                  have H1 : (if t411.toList = a0_3.toList then (if ((rd_T38 l0_4 x6_3).f0).size + 2 ≤ 9223372036854775807 then (if (((rd_T38 l0_4 x6_3).f0) ++ (⟨#[58, 32]⟩ : ByteArray)).size + ((rd_T38 l0_4 x6_3).f1).size ≤ 9223372036854775807 then (if ((((rd_T38 l0_4 x6_3).f0) ++ (⟨#[58, 32]⟩ : ByteArray)) ++ ((rd_T38 l0_4 x6_3).f1)).size + 2 ≤ 9223372036854775807 then (if x4_3.size + (((((rd_T38 l0_4 x6_3).f0) ++ (⟨#[58, 32]⟩ : ByteArray)) ++ ((rd_T38 l0_4 x6_3).f1)) ++ (⟨#[13, 10]⟩ : ByteArray)).size ≤ 9223372036854775807 then (tollgateref09_Write.l0 kj23 (x4_3 ++ (((((rd_T38 l0_4 x6_3).f0) ++ (⟨#[58, 32]⟩ : ByteArray)) ++ ((rd_T38 l0_4 x6_3).f1)) ++ (⟨#[13, 10]⟩ : ByteArray))) (wrap64 (x5_3 + 1)) (wrap64 (x6_3 + 1)) a0_0 a0_1 a0_2 a0_3 l0_4) else (none)) else (none)) else (none)) else (none)) else (some (([] : List Int), 4))) = some (r1, r2) := by rw [if_pos rfl] at H; exact H
                  clear H
                  have H := H1
                  clear H1
                  by_cases c46 : t411.toList = a0_3.toList
                  ·rw [if_pos c46] at H
                   have c46b0 : (t411.toList == a0_3.toList) = true := beq_iff_eq.mpr c46
                   have c46b1 : (t411.toList != a0_3.toList) = false := bne_eq_false_iff_eq.mpr c46
                   clear c46
                   by_cases c47 : ((rd_T38 l0_4 x6_3).f0).size + 2 ≤ 9223372036854775807
                   ·rw [if_pos c47] at H
                    have c47b0 := eq_true c47
                    have c47b1 : decide (((rd_T38 l0_4 x6_3).f0).size + 2 ≤ 9223372036854775807) = true := decide_eq_true c47
                    try have c47b2 : (9223372036854775807 < ((rd_T38 l0_4 x6_3).f0).size + 2) = False := eq_false (Nat.not_lt.2 c47)
                    by_cases c48 : (((rd_T38 l0_4 x6_3).f0) ++ (⟨#[58, 32]⟩ : ByteArray)).size + ((rd_T38 l0_4 x6_3).f1).size ≤ 9223372036854775807
                    ·rw [if_pos c48] at H
                     have c48b0 := eq_true c48
                     have c48b1 : decide ((((rd_T38 l0_4 x6_3).f0) ++ (⟨#[58, 32]⟩ : ByteArray)).size + ((rd_T38 l0_4 x6_3).f1).size ≤ 9223372036854775807) = true := decide_eq_true c48
                     try have c48b2 : (9223372036854775807 < (((rd_T38 l0_4 x6_3).f0) ++ (⟨#[58, 32]⟩ : ByteArray)).size + ((rd_T38 l0_4 x6_3).f1).size) = False := eq_false (Nat.not_lt.2 c48)
                     have c48s : (9223372036854775807 < ((rd_T38 l0_4 x6_3).f0).size + 2 + ((rd_T38 l0_4 x6_3).f1).size) = False := eq_false (by have h_ := c48; (try simp only [ByteArray.size_append] at h_); have z0_ : (⟨#[58, 32]⟩ : ByteArray).size = 2 := rfl; omega)
                     by_cases c49 : ((((rd_T38 l0_4 x6_3).f0) ++ (⟨#[58, 32]⟩ : ByteArray)) ++ ((rd_T38 l0_4 x6_3).f1)).size + 2 ≤ 9223372036854775807
                     ·rw [if_pos c49] at H
                      have c49b0 := eq_true c49
                      have c49b1 : decide (((((rd_T38 l0_4 x6_3).f0) ++ (⟨#[58, 32]⟩ : ByteArray)) ++ ((rd_T38 l0_4 x6_3).f1)).size + 2 ≤ 9223372036854775807) = true := decide_eq_true c49
                      try have c49b2 : (9223372036854775807 < ((((rd_T38 l0_4 x6_3).f0) ++ (⟨#[58, 32]⟩ : ByteArray)) ++ ((rd_T38 l0_4 x6_3).f1)).size + 2) = False := eq_false (Nat.not_lt.2 c49)
                      have c49s : (9223372036854775807 < ((rd_T38 l0_4 x6_3).f0).size + 2 + ((rd_T38 l0_4 x6_3).f1).size + 2) = False := eq_false (by have h_ := c49; (try simp only [ByteArray.size_append] at h_); have z0_ : (⟨#[58, 32]⟩ : ByteArray).size = 2 := rfl; omega)
                      by_cases c50 : x4_3.size + (((((rd_T38 l0_4 x6_3).f0) ++ (⟨#[58, 32]⟩ : ByteArray)) ++ ((rd_T38 l0_4 x6_3).f1)) ++ (⟨#[13, 10]⟩ : ByteArray)).size ≤ 9223372036854775807
                      ·rw [if_pos c50] at H
                       have c50b0 := eq_true c50
                       have c50b1 : decide (x4_3.size + (((((rd_T38 l0_4 x6_3).f0) ++ (⟨#[58, 32]⟩ : ByteArray)) ++ ((rd_T38 l0_4 x6_3).f1)) ++ (⟨#[13, 10]⟩ : ByteArray)).size ≤ 9223372036854775807) = true := decide_eq_true c50
                       try have c50b2 : (9223372036854775807 < x4_3.size + (((((rd_T38 l0_4 x6_3).f0) ++ (⟨#[58, 32]⟩ : ByteArray)) ++ ((rd_T38 l0_4 x6_3).f1)) ++ (⟨#[13, 10]⟩ : ByteArray)).size) = False := eq_false (Nat.not_lt.2 c50)
                       have c50s : (9223372036854775807 < x4_3.size + (((rd_T38 l0_4 x6_3).f0).size + 2 + ((rd_T38 l0_4 x6_3).f1).size + 2)) = False := eq_false (by have h_ := c50; (try simp only [ByteArray.size_append] at h_); have z0_ : (⟨#[58, 32]⟩ : ByteArray).size = 2 := rfl; have z1_ : (⟨#[13, 10]⟩ : ByteArray).size = 2 := rfl; omega)
                       have H' := Aside0.mk H
                       clear H
                       have hnb51 := NB407_402.out
                       have hnc51 := NB402_407.out
                       have hcz52_0 : wc.cell? ⟨gb407, 0, none⟩ = some (.string ((rd_T38 l0_4 x6_3).f0)) := (blk_cell BK407.out 0).trans rfl
                       have hcz52_1 : wc.cell? ⟨gb407, 1, none⟩ = some (.string ((rd_T38 l0_4 x6_3).f1)) := (blk_cell BK407.out 1).trans rfl
                       have hfz52_0 := blk_frozen BK407.out 0
                       have hfz52_1 := blk_frozen BK407.out 1
                       go_wp2_with (first | ((with_reducible refine gate_callee (f := 23) rfl ?_); refine goesL_ (some 80) rfl rfl Tryd.func23 (by kernel_rfl) rfl #[.string ((rd_T38 l0_4 x6_3).f1)] rfl (by (try simp only [List.map_toArray, List.map_cons, List.map_nil]); first | done | rfl | (simp only [List.length_drop, List.length_take]; rfl)) ?_; (with_reducible refine (tollgateref09_Host.calls kj23 ((rd_T38 l0_4 x6_3).f1) t411 true _ A44.out).mono ?_); rintro e w53 ⟨rfl, hb⟩; refine ⟨_, rfl, ?_⟩; have n0_ := Aside0.mk (blk_below (g := gb402) (o := .cells #[.string a0_0, .string a0_1, .string a0_2, .string a0_3, .slice (some ad406) l0_4.length c0_4] 25 (0, 0)) (by (with_reducible repeat (first | refine blk_drewN ?_ _ | refine blk_drew ?_ | refine blk_alloc ?_ _)); exact BK402.out) hb); have n1_ := Aside0.mk (blk_below (g := gb407) (o := .cells #[.string ((rd_T38 l0_4 x6_3).f0), .string ((rd_T38 l0_4 x6_3).f1)] 38 (0, 0)) (by (with_reducible repeat (first | refine blk_drewN ?_ _ | refine blk_drew ?_ | refine blk_alloc ?_ _)); exact BK407.out) hb); have n2_ := Aside0.mk (below_step (by repeat (first | (with_reducible first | exact HB.out | apply below_alloc | apply pw_below_drewN | apply below_drew1 | refine below_set ?_ GE402.out | refine below_set ?_ GE407.out) | exact HB.out)) hb); clear BK402; clear BK407; clear HB; have BK402 := n0_; have BK407 := n1_; have HB := n2_; clear n0_ n1_ n2_; (try clear hb); (try clear hb2); (try clear hk); (try clear hi); have hcz54_0 : w53.cell? ⟨gb402, 0, none⟩ = some (.string a0_0) := (blk_cell BK402.out 0).trans rfl; have hcz54_1 : w53.cell? ⟨gb402, 1, none⟩ = some (.string a0_1) := (blk_cell BK402.out 1).trans rfl; have hcz54_2 : w53.cell? ⟨gb402, 2, none⟩ = some (.string a0_2) := (blk_cell BK402.out 2).trans rfl; have hcz54_3 : w53.cell? ⟨gb402, 3, none⟩ = some (.string a0_3) := (blk_cell BK402.out 3).trans rfl; have hcz54_4 : w53.cell? ⟨gb402, 4, none⟩ = some (.slice (some ad406) l0_4.length c0_4) := (blk_cell BK402.out 4).trans rfl; have hfz54_0 := blk_frozen BK402.out 0; have hfz54_1 := blk_frozen BK402.out 1; have hfz54_2 := blk_frozen BK402.out 2; have hfz54_3 := blk_frozen BK402.out 3; have hfz54_4 := blk_frozen BK402.out 4; have hcz55_0 : w53.cell? ⟨gb407, 0, none⟩ = some (.string ((rd_T38 l0_4 x6_3).f0)) := (blk_cell BK407.out 0).trans rfl; have hcz55_1 : w53.cell? ⟨gb407, 1, none⟩ = some (.string ((rd_T38 l0_4 x6_3).f1)) := (blk_cell BK407.out 1).trans rfl; have hfz55_0 := blk_frozen BK407.out 0; have hfz55_1 := blk_frozen BK407.out 1))
                       go_roundg kj23
                       case measure => have := HJ1.out; have := HJ14.out; have := HK3.out; have := HJ23.out; omega
                       case rel => exact ⟨(x4_3 ++ (((((rd_T38 l0_4 x6_3).f0) ++ (⟨#[58, 32]⟩ : ByteArray)) ++ ((rd_T38 l0_4 x6_3).f1)) ++ (⟨#[13, 10]⟩ : ByteArray))), (wrap64 (x5_3 + 1)), (wrap64 (x6_3 + 1)), (by first | rfl | (simp; done) | (simp [*]; done)), (by first | rfl | (simp; done) | (simp [*]; done)), (by first | rfl | (simp; done) | (simp [*]; done)), H', ⟨by have := HJ1.out; have := HJ14.out; have := HK3.out; have := HJ23.out; omega⟩, ⟨by (with_reducible repeat (first | refine blk_drewN ?_ _ | refine blk_drew ?_ | refine blk_alloc ?_ _)); exact BK402.out⟩, ⟨by repeat (first | (with_reducible first | exact HB.out | apply below_alloc | apply pw_below_drewN | apply below_drew1 | refine below_set ?_ GE402.out | refine below_set ?_ GE407.out) | exact HB.out)⟩⟩
                      ·rw [if_neg c50] at H
                       exact absurd H (by simp)
                     ·rw [if_neg c49] at H
                      exact absurd H (by simp)
                    ·rw [if_neg c48] at H
                     exact absurd H (by simp)
                   ·rw [if_neg c47] at H
                    exact absurd H (by simp)
                  ·rw [if_neg c46] at H
                   have c46b0 : (t411.toList == a0_3.toList) = false := beq_eq_false_iff_ne.mpr c46
                   have c46b1 : (t411.toList != a0_3.toList) = true := bne_iff_ne.mpr c46
                   simp only [Option.some.injEq, Prod.mk.injEq] at H
                   obtain ⟨rfl, rfl⟩ := H
                   have hnb56 := NB407_402.out
                   have hnc56 := NB402_407.out
                   have hcz57_0 : wc.cell? ⟨gb407, 0, none⟩ = some (.string ((rd_T38 l0_4 x6_3).f0)) := (blk_cell BK407.out 0).trans rfl
                   have hcz57_1 : wc.cell? ⟨gb407, 1, none⟩ = some (.string ((rd_T38 l0_4 x6_3).f1)) := (blk_cell BK407.out 1).trans rfl
                   have hfz57_0 := blk_frozen BK407.out 0
                   have hfz57_1 := blk_frozen BK407.out 1
                   go_wp2_with (first | ((with_reducible refine gate_callee (f := 23) rfl ?_); refine goesL_ (some 80) rfl rfl Tryd.func23 (by kernel_rfl) rfl #[.string ((rd_T38 l0_4 x6_3).f1)] rfl (by (try simp only [List.map_toArray, List.map_cons, List.map_nil]); first | done | rfl | (simp only [List.length_drop, List.length_take]; rfl)) ?_; (with_reducible refine (tollgateref09_Host.calls kj23 ((rd_T38 l0_4 x6_3).f1) t411 true _ A44.out).mono ?_); rintro e w58 ⟨rfl, hb⟩; refine ⟨_, rfl, ?_⟩; have n0_ := Aside0.mk (blk_below (g := gb402) (o := .cells #[.string a0_0, .string a0_1, .string a0_2, .string a0_3, .slice (some ad406) l0_4.length c0_4] 25 (0, 0)) (by (with_reducible repeat (first | refine blk_drewN ?_ _ | refine blk_drew ?_ | refine blk_alloc ?_ _)); exact BK402.out) hb); have n1_ := Aside0.mk (blk_below (g := gb407) (o := .cells #[.string ((rd_T38 l0_4 x6_3).f0), .string ((rd_T38 l0_4 x6_3).f1)] 38 (0, 0)) (by (with_reducible repeat (first | refine blk_drewN ?_ _ | refine blk_drew ?_ | refine blk_alloc ?_ _)); exact BK407.out) hb); have n2_ := Aside0.mk (below_step (by repeat (first | (with_reducible first | exact HB.out | apply below_alloc | apply pw_below_drewN | apply below_drew1 | refine below_set ?_ GE402.out | refine below_set ?_ GE407.out) | exact HB.out)) hb); clear BK402; clear BK407; clear HB; have BK402 := n0_; have BK407 := n1_; have HB := n2_; clear n0_ n1_ n2_; (try clear hb); (try clear hb2); (try clear hk); (try clear hi); have hcz59_0 : w58.cell? ⟨gb402, 0, none⟩ = some (.string a0_0) := (blk_cell BK402.out 0).trans rfl; have hcz59_1 : w58.cell? ⟨gb402, 1, none⟩ = some (.string a0_1) := (blk_cell BK402.out 1).trans rfl; have hcz59_2 : w58.cell? ⟨gb402, 2, none⟩ = some (.string a0_2) := (blk_cell BK402.out 2).trans rfl; have hcz59_3 : w58.cell? ⟨gb402, 3, none⟩ = some (.string a0_3) := (blk_cell BK402.out 3).trans rfl; have hcz59_4 : w58.cell? ⟨gb402, 4, none⟩ = some (.slice (some ad406) l0_4.length c0_4) := (blk_cell BK402.out 4).trans rfl; have hfz59_0 := blk_frozen BK402.out 0; have hfz59_1 := blk_frozen BK402.out 1; have hfz59_2 := blk_frozen BK402.out 2; have hfz59_3 := blk_frozen BK402.out 3; have hfz59_4 := blk_frozen BK402.out 4))
                   go_ret2
                   exact ⟨.slice none 0 0, by first | rfl | (simp [errW_none, errW_some] <;> rfl) | (simp [*, errW_none, errW_some] <;> rfl), Kd.V_nil _ _ _ _ _, by repeat (first | (with_reducible first | exact HB.out | apply below_alloc | apply pw_below_drewN | apply below_drew1 | refine below_set ?_ GE402.out | refine below_set ?_ GE407.out) | exact HB.out)⟩
                 ·replace c45 := Bool.eq_false_iff.mpr c45
                  subst c45
                  have H1 : (some (([] : List Int), 4)) = some (r1, r2) := by rw [if_neg (show ¬ (false = true) by decide)] at H; exact H
                  clear H
                  have H := H1
                  clear H1
                  simp only [Option.some.injEq, Prod.mk.injEq] at H
                  obtain ⟨rfl, rfl⟩ := H
                  have hnb60 := NB407_402.out
                  have hnc60 := NB402_407.out
                  have hcz61_0 : wc.cell? ⟨gb407, 0, none⟩ = some (.string ((rd_T38 l0_4 x6_3).f0)) := (blk_cell BK407.out 0).trans rfl
                  have hcz61_1 : wc.cell? ⟨gb407, 1, none⟩ = some (.string ((rd_T38 l0_4 x6_3).f1)) := (blk_cell BK407.out 1).trans rfl
                  have hfz61_0 := blk_frozen BK407.out 0
                  have hfz61_1 := blk_frozen BK407.out 1
                  go_wp2_with (first | ((with_reducible refine gate_callee (f := 23) rfl ?_); refine goesL_ (some 80) rfl rfl Tryd.func23 (by kernel_rfl) rfl #[.string ((rd_T38 l0_4 x6_3).f1)] rfl (by (try simp only [List.map_toArray, List.map_cons, List.map_nil]); first | done | rfl | (simp only [List.length_drop, List.length_take]; rfl)) ?_; (with_reducible refine (tollgateref09_Host.calls kj23 ((rd_T38 l0_4 x6_3).f1) t411 false _ A44.out).mono ?_); rintro e w62 ⟨rfl, hb⟩; refine ⟨_, rfl, ?_⟩; have n0_ := Aside0.mk (blk_below (g := gb402) (o := .cells #[.string a0_0, .string a0_1, .string a0_2, .string a0_3, .slice (some ad406) l0_4.length c0_4] 25 (0, 0)) (by (with_reducible repeat (first | refine blk_drewN ?_ _ | refine blk_drew ?_ | refine blk_alloc ?_ _)); exact BK402.out) hb); have n1_ := Aside0.mk (blk_below (g := gb407) (o := .cells #[.string ((rd_T38 l0_4 x6_3).f0), .string ((rd_T38 l0_4 x6_3).f1)] 38 (0, 0)) (by (with_reducible repeat (first | refine blk_drewN ?_ _ | refine blk_drew ?_ | refine blk_alloc ?_ _)); exact BK407.out) hb); have n2_ := Aside0.mk (below_step (by repeat (first | (with_reducible first | exact HB.out | apply below_alloc | apply pw_below_drewN | apply below_drew1 | refine below_set ?_ GE402.out | refine below_set ?_ GE407.out) | exact HB.out)) hb); clear BK402; clear BK407; clear HB; have BK402 := n0_; have BK407 := n1_; have HB := n2_; clear n0_ n1_ n2_; (try clear hb); (try clear hb2); (try clear hk); (try clear hi)))
                  go_ret2
                  exact ⟨.slice none 0 0, by first | rfl | (simp [errW_none, errW_some] <;> rfl) | (simp [*, errW_none, errW_some] <;> rfl), Kd.V_nil _ _ _ _ _, by repeat (first | (with_reducible first | exact HB.out | apply below_alloc | apply pw_below_drewN | apply below_drew1 | refine below_set ?_ GE402.out | refine below_set ?_ GE407.out) | exact HB.out)⟩
                ·rw [if_neg c43] at H
                 have c43b0 : (((rd_T38 l0_4 x6_3).f0).toList == ([104, 111, 115, 116] : List UInt8)) = false := beq_eq_false_iff_ne.mpr c43
                 have c43b1 : (((rd_T38 l0_4 x6_3).f0).toList != ([104, 111, 115, 116] : List UInt8)) = true := bne_iff_ne.mpr c43
                 by_cases c63 : ((rd_T38 l0_4 x6_3).f0).size + 2 ≤ 9223372036854775807
                 ·rw [if_pos c63] at H
                  have c63b0 := eq_true c63
                  have c63b1 : decide (((rd_T38 l0_4 x6_3).f0).size + 2 ≤ 9223372036854775807) = true := decide_eq_true c63
                  try have c63b2 : (9223372036854775807 < ((rd_T38 l0_4 x6_3).f0).size + 2) = False := eq_false (Nat.not_lt.2 c63)
                  by_cases c64 : (((rd_T38 l0_4 x6_3).f0) ++ (⟨#[58, 32]⟩ : ByteArray)).size + ((rd_T38 l0_4 x6_3).f1).size ≤ 9223372036854775807
                  ·rw [if_pos c64] at H
                   have c64b0 := eq_true c64
                   have c64b1 : decide ((((rd_T38 l0_4 x6_3).f0) ++ (⟨#[58, 32]⟩ : ByteArray)).size + ((rd_T38 l0_4 x6_3).f1).size ≤ 9223372036854775807) = true := decide_eq_true c64
                   try have c64b2 : (9223372036854775807 < (((rd_T38 l0_4 x6_3).f0) ++ (⟨#[58, 32]⟩ : ByteArray)).size + ((rd_T38 l0_4 x6_3).f1).size) = False := eq_false (Nat.not_lt.2 c64)
                   have c64s : (9223372036854775807 < ((rd_T38 l0_4 x6_3).f0).size + 2 + ((rd_T38 l0_4 x6_3).f1).size) = False := eq_false (by have h_ := c64; (try simp only [ByteArray.size_append] at h_); have z0_ : (⟨#[58, 32]⟩ : ByteArray).size = 2 := rfl; omega)
                   by_cases c65 : ((((rd_T38 l0_4 x6_3).f0) ++ (⟨#[58, 32]⟩ : ByteArray)) ++ ((rd_T38 l0_4 x6_3).f1)).size + 2 ≤ 9223372036854775807
                   ·rw [if_pos c65] at H
                    have c65b0 := eq_true c65
                    have c65b1 : decide (((((rd_T38 l0_4 x6_3).f0) ++ (⟨#[58, 32]⟩ : ByteArray)) ++ ((rd_T38 l0_4 x6_3).f1)).size + 2 ≤ 9223372036854775807) = true := decide_eq_true c65
                    try have c65b2 : (9223372036854775807 < ((((rd_T38 l0_4 x6_3).f0) ++ (⟨#[58, 32]⟩ : ByteArray)) ++ ((rd_T38 l0_4 x6_3).f1)).size + 2) = False := eq_false (Nat.not_lt.2 c65)
                    have c65s : (9223372036854775807 < ((rd_T38 l0_4 x6_3).f0).size + 2 + ((rd_T38 l0_4 x6_3).f1).size + 2) = False := eq_false (by have h_ := c65; (try simp only [ByteArray.size_append] at h_); have z0_ : (⟨#[58, 32]⟩ : ByteArray).size = 2 := rfl; omega)
                    by_cases c66 : x4_3.size + (((((rd_T38 l0_4 x6_3).f0) ++ (⟨#[58, 32]⟩ : ByteArray)) ++ ((rd_T38 l0_4 x6_3).f1)) ++ (⟨#[13, 10]⟩ : ByteArray)).size ≤ 9223372036854775807
                    ·rw [if_pos c66] at H
                     have c66b0 := eq_true c66
                     have c66b1 : decide (x4_3.size + (((((rd_T38 l0_4 x6_3).f0) ++ (⟨#[58, 32]⟩ : ByteArray)) ++ ((rd_T38 l0_4 x6_3).f1)) ++ (⟨#[13, 10]⟩ : ByteArray)).size ≤ 9223372036854775807) = true := decide_eq_true c66
                     try have c66b2 : (9223372036854775807 < x4_3.size + (((((rd_T38 l0_4 x6_3).f0) ++ (⟨#[58, 32]⟩ : ByteArray)) ++ ((rd_T38 l0_4 x6_3).f1)) ++ (⟨#[13, 10]⟩ : ByteArray)).size) = False := eq_false (Nat.not_lt.2 c66)
                     have c66s : (9223372036854775807 < x4_3.size + (((rd_T38 l0_4 x6_3).f0).size + 2 + ((rd_T38 l0_4 x6_3).f1).size + 2)) = False := eq_false (by have h_ := c66; (try simp only [ByteArray.size_append] at h_); have z0_ : (⟨#[58, 32]⟩ : ByteArray).size = 2 := rfl; have z1_ : (⟨#[13, 10]⟩ : ByteArray).size = 2 := rfl; omega)
                     have H' := Aside0.mk H
                     clear H
                     have hnb67 := NB407_402.out
                     have hnc67 := NB402_407.out
                     have hcz68_0 : wc.cell? ⟨gb407, 0, none⟩ = some (.string ((rd_T38 l0_4 x6_3).f0)) := (blk_cell BK407.out 0).trans rfl
                     have hcz68_1 : wc.cell? ⟨gb407, 1, none⟩ = some (.string ((rd_T38 l0_4 x6_3).f1)) := (blk_cell BK407.out 1).trans rfl
                     have hfz68_0 := blk_frozen BK407.out 0
                     have hfz68_1 := blk_frozen BK407.out 1
                     go_wp2
                     go_roundg kj23
                     case measure => have := HJ1.out; have := HJ14.out; have := HK3.out; have := HJ23.out; omega
                     case rel => exact ⟨(x4_3 ++ (((((rd_T38 l0_4 x6_3).f0) ++ (⟨#[58, 32]⟩ : ByteArray)) ++ ((rd_T38 l0_4 x6_3).f1)) ++ (⟨#[13, 10]⟩ : ByteArray))), (x5_3), (wrap64 (x6_3 + 1)), (by first | rfl | (simp; done) | (simp [*]; done)), (by first | rfl | (simp; done) | (simp [*]; done)), (by first | rfl | (simp; done) | (simp [*]; done)), H', ⟨by have := HJ1.out; have := HJ14.out; have := HK3.out; have := HJ23.out; omega⟩, ⟨by (with_reducible repeat (first | refine blk_drewN ?_ _ | refine blk_drew ?_ | refine blk_alloc ?_ _)); exact BK402.out⟩, ⟨by repeat (first | (with_reducible first | exact HB.out | apply below_alloc | apply pw_below_drewN | apply below_drew1 | refine below_set ?_ GE402.out | refine below_set ?_ GE407.out) | exact HB.out)⟩⟩
                    ·rw [if_neg c66] at H
                     exact absurd H (by simp)
                   ·rw [if_neg c65] at H
                    exact absurd H (by simp)
                  ·rw [if_neg c64] at H
                   exact absurd H (by simp)
                 ·rw [if_neg c63] at H
                  exact absurd H (by simp)
            ·rw [if_neg c23] at H
             exact absurd H (by simp)
           ·rw [if_neg c22] at H
            have c22b0 : decide (x6_3 < (l0_4.length : Int)) = false := decide_eq_false c22
            clear c22
            by_cases c69 : x4_3.size + 2 ≤ 9223372036854775807
            ·rw [if_pos c69] at H
             have c69b0 := eq_true c69
             have c69b1 : decide (x4_3.size + 2 ≤ 9223372036854775807) = true := decide_eq_true c69
             try have c69b2 : (9223372036854775807 < x4_3.size + 2) = False := eq_false (Nat.not_lt.2 c69)
             by_cases c70 : x5_3 = 1
             ·rw [if_pos c70] at H
              have c70b0 : (x5_3 == 1) = true := beq_iff_eq.mpr c70
              have c70b1 : (x5_3 != 1) = false := bne_eq_false_iff_eq.mpr c70
              clear c70
              by_cases c71 : (l0_4.length : Int) > 32
              ·rw [if_pos c71] at H
               have c71b0 : decide (32 < (l0_4.length : Int)) = true := decide_eq_true c71
               have c71b1 : decide (32 < l0_4.length) = true := decide_eq_true (by omega)
               clear c71
               simp only [Option.some.injEq, Prod.mk.injEq] at H
               obtain ⟨rfl, rfl⟩ := H
               have hcz72_0 : wr.cell? ⟨gb402, 0, none⟩ = some (.string a0_0) := (blk_cell BK402.out 0).trans rfl
               have hcz72_1 : wr.cell? ⟨gb402, 1, none⟩ = some (.string a0_1) := (blk_cell BK402.out 1).trans rfl
               have hcz72_2 : wr.cell? ⟨gb402, 2, none⟩ = some (.string a0_2) := (blk_cell BK402.out 2).trans rfl
               have hcz72_3 : wr.cell? ⟨gb402, 3, none⟩ = some (.string a0_3) := (blk_cell BK402.out 3).trans rfl
               have hcz72_4 : wr.cell? ⟨gb402, 4, none⟩ = some (.slice A0_4 l0_4.length c0_4) := (blk_cell BK402.out 4).trans rfl
               have hfz72_0 := blk_frozen BK402.out 0
               have hfz72_1 := blk_frozen BK402.out 1
               have hfz72_2 := blk_frozen BK402.out 2
               have hfz72_3 := blk_frozen BK402.out 3
               have hfz72_4 := blk_frozen BK402.out 4
               go_wp2
               go_ret2
               exact ⟨.slice none 0 0, by first | rfl | (simp [errW_none, errW_some] <;> rfl) | (simp [*, errW_none, errW_some] <;> rfl), Kd.V_nil _ _ _ _ _, by repeat (first | (with_reducible first | exact HB.out | apply below_alloc | apply pw_below_drewN | apply below_drew1 | refine below_set ?_ GE402.out) | exact HB.out)⟩
              ·rw [if_neg c71] at H
               have c71b0 : decide (32 < (l0_4.length : Int)) = false := decide_eq_false c71
               have c71b1 : decide (32 < l0_4.length) = false := decide_eq_false (by omega)
               clear c71
               by_cases c73 : ((x4_3 ++ (⟨#[13, 10]⟩ : ByteArray)).size : Int) > 2048
               ·rw [if_pos c73] at H
                have c73b0 : decide (2048 < ((x4_3 ++ (⟨#[13, 10]⟩ : ByteArray)).size : Int)) = true := decide_eq_true c73
                have c73s : (2048 < (x4_3.size : Int) + 2) = True := eq_true (by have h_ := c73; (try simp only [ByteArray.size_append] at h_); have z0_ : (⟨#[13, 10]⟩ : ByteArray).size = 2 := rfl; omega)
                have c73t : decide (2048 < (x4_3.size : Int) + 2) = true := decide_eq_true (by have h_ := c73; (try simp only [ByteArray.size_append] at h_); have z0_ : (⟨#[13, 10]⟩ : ByteArray).size = 2 := rfl; omega)
                have c73b1 : decide (2048 < (x4_3 ++ (⟨#[13, 10]⟩ : ByteArray)).size) = true := decide_eq_true (by omega)
                clear c73
                simp only [Option.some.injEq, Prod.mk.injEq] at H
                obtain ⟨rfl, rfl⟩ := H
                have hcz74_0 : wr.cell? ⟨gb402, 0, none⟩ = some (.string a0_0) := (blk_cell BK402.out 0).trans rfl
                have hcz74_1 : wr.cell? ⟨gb402, 1, none⟩ = some (.string a0_1) := (blk_cell BK402.out 1).trans rfl
                have hcz74_2 : wr.cell? ⟨gb402, 2, none⟩ = some (.string a0_2) := (blk_cell BK402.out 2).trans rfl
                have hcz74_3 : wr.cell? ⟨gb402, 3, none⟩ = some (.string a0_3) := (blk_cell BK402.out 3).trans rfl
                have hcz74_4 : wr.cell? ⟨gb402, 4, none⟩ = some (.slice A0_4 l0_4.length c0_4) := (blk_cell BK402.out 4).trans rfl
                have hfz74_0 := blk_frozen BK402.out 0
                have hfz74_1 := blk_frozen BK402.out 1
                have hfz74_2 := blk_frozen BK402.out 2
                have hfz74_3 := blk_frozen BK402.out 3
                have hfz74_4 := blk_frozen BK402.out 4
                go_wp2
                go_ret2
                exact ⟨.slice none 0 0, by first | rfl | (simp [errW_none, errW_some] <;> rfl) | (simp [*, errW_none, errW_some] <;> rfl), Kd.V_nil _ _ _ _ _, by repeat (first | (with_reducible first | exact HB.out | apply below_alloc | apply pw_below_drewN | apply below_drew1 | refine below_set ?_ GE402.out) | exact HB.out)⟩
               ·rw [if_neg c73] at H
                have c73b0 : decide (2048 < ((x4_3 ++ (⟨#[13, 10]⟩ : ByteArray)).size : Int)) = false := decide_eq_false c73
                have c73s : (2048 < (x4_3.size : Int) + 2) = False := eq_false (by have h_ := c73; (try simp only [ByteArray.size_append] at h_); have z0_ : (⟨#[13, 10]⟩ : ByteArray).size = 2 := rfl; omega)
                have c73t : decide (2048 < (x4_3.size : Int) + 2) = false := decide_eq_false (by have h_ := c73; (try simp only [ByteArray.size_append] at h_); have z0_ : (⟨#[13, 10]⟩ : ByteArray).size = 2 := rfl; omega)
                have c73b1 : decide (2048 < (x4_3 ++ (⟨#[13, 10]⟩ : ByteArray)).size) = false := decide_eq_false (by omega)
                clear c73
                by_cases c75 : (x4_3 ++ (⟨#[13, 10]⟩ : ByteArray)).size ≤ 9223372036854775807
                ·rw [if_pos c75] at H
                 have LMc75 := Aside0.mk c75
                 clear c75
                 obtain ⟨y413, hy413⟩ : ∃ y_ : List Int, y_ = (bytesOf (x4_3 ++ (⟨#[13, 10]⟩ : ByteArray))) := ⟨_, rfl⟩
                 replace H : (some (y413, 0)) = some (r1, r2) := by first | (rw [hy413]; with_reducible exact H) | (have H2_ := (Option.bind_some _ _).symm.trans H; rw [hy413]; with_reducible exact H2_) | (have H2_ := (Option.bind_some _ _).symm.trans H; with_reducible exact H2_) | with_reducible exact H | (rw [hy413]; exact H) | exact H
                 have Ny413 := Aside0.mk hy413
                 clear hy413
                 simp only [Option.some.injEq, Prod.mk.injEq] at H
                 obtain ⟨rfl, rfl⟩ := H
                 have hcz76_0 : wr.cell? ⟨gb402, 0, none⟩ = some (.string a0_0) := (blk_cell BK402.out 0).trans rfl
                 have hcz76_1 : wr.cell? ⟨gb402, 1, none⟩ = some (.string a0_1) := (blk_cell BK402.out 1).trans rfl
                 have hcz76_2 : wr.cell? ⟨gb402, 2, none⟩ = some (.string a0_2) := (blk_cell BK402.out 2).trans rfl
                 have hcz76_3 : wr.cell? ⟨gb402, 3, none⟩ = some (.string a0_3) := (blk_cell BK402.out 3).trans rfl
                 have hcz76_4 : wr.cell? ⟨gb402, 4, none⟩ = some (.slice A0_4 l0_4.length c0_4) := (blk_cell BK402.out 4).trans rfl
                 have hfz76_0 := blk_frozen BK402.out 0
                 have hfz76_1 := blk_frozen BK402.out 1
                 have hfz76_2 := blk_frozen BK402.out 2
                 have hfz76_3 := blk_frozen BK402.out 3
                 have hfz76_4 := blk_frozen BK402.out 4
                 go_wp2_with (first | ((with_reducible refine gate_dst (N := 114) rfl ?_); (try (refine gate_guard (by rfl) ?_; dsimp only)); refine Kd.V_bytes (s := (x4_3 ++ (⟨#[13, 10]⟩ : ByteArray))) _ 5 ?hg (N := 114) ?hd (ok := fun k_ => wr.heap.size ≤ k_) ?hr (Nat.le_refl _) (Below.refl _ _) (Nat.le_refl _) LMc75.out ?_; (case hd => rfl); (case hg => rfl); (case hr => first | (go_simp; done) | (go_simp; rfl)); intro v414 w77 ho78 hb hg_ hnew_; clear hg_ hnew_; (first | rw [← Ny413.out] at ho78 | (simp only [Int.reduceToNat] at ho78; rw [← Ny413.out] at ho78)); have n0_ := Aside0.mk (Kd.V_lower (Kd.V_mono (ok' := fun k_ => (w.heap.size ≤ k_) ∧ k_ ≠ gb402) ho78 (fun k_ hk_ => ⟨(Nat.le_trans (below_size (by repeat (first | (with_reducible first | exact HB.out | apply below_alloc | apply pw_below_drewN | apply below_drew1 | refine below_set ?_ GE402.out) | exact HB.out))) hk_), (Kd.freshB (g := gb402) (o := .cells #[.string a0_0, .string a0_1, .string a0_2, .string a0_3, .slice A0_4 l0_4.length c0_4] 25 (0, 0)) (by (with_reducible repeat (first | refine blk_drewN ?_ _ | refine blk_drew ?_ | refine blk_alloc ?_ _)); exact BK402.out) k_ hk_)⟩)) (below_size (by repeat (first | (with_reducible first | exact HB.out | apply below_alloc | apply pw_below_drewN | apply below_drew1 | refine below_set ?_ GE402.out) | exact HB.out)))); have n1_ := Aside0.mk (blk_below (g := gb402) (o := .cells #[.string a0_0, .string a0_1, .string a0_2, .string a0_3, .slice A0_4 l0_4.length c0_4] 25 (0, 0)) (by (with_reducible repeat (first | refine blk_drewN ?_ _ | refine blk_drew ?_ | refine blk_alloc ?_ _)); exact BK402.out) hb); have n2_ := Aside0.mk (below_step (by repeat (first | (with_reducible first | exact HB.out | apply below_alloc | apply pw_below_drewN | apply below_drew1 | refine below_set ?_ GE402.out) | exact HB.out)) hb); clear BK402; clear HB; have HO415 := n0_; have BK402 := n1_; have HB := n2_; clear n0_ n1_ n2_; clear hb ho78))
                 go_ret2
                 exact ⟨_, by first | rfl | (simp [errW_none, errW_some] <;> rfl) | (simp [*, errW_none, errW_some] <;> rfl), by (with_reducible repeat (first | apply Kd.V_alloc | apply Kd.V_drewN | apply Kd.V_drew)); exact Kd.V_mono HO415.out (fun _ hk => hk.1), by repeat (first | (with_reducible first | exact HB.out | apply below_alloc | apply pw_below_drewN | apply below_drew1 | refine below_set ?_ GE402.out) | exact HB.out)⟩
                ·rw [if_neg c75] at H
                 exact absurd H (by simp)
             ·rw [if_neg c70] at H
              have c70b0 : (x5_3 == 1) = false := beq_eq_false_iff_ne.mpr c70
              have c70b1 : (x5_3 != 1) = true := bne_iff_ne.mpr c70
              simp only [Option.some.injEq, Prod.mk.injEq] at H
              obtain ⟨rfl, rfl⟩ := H
              have hcz79_0 : wr.cell? ⟨gb402, 0, none⟩ = some (.string a0_0) := (blk_cell BK402.out 0).trans rfl
              have hcz79_1 : wr.cell? ⟨gb402, 1, none⟩ = some (.string a0_1) := (blk_cell BK402.out 1).trans rfl
              have hcz79_2 : wr.cell? ⟨gb402, 2, none⟩ = some (.string a0_2) := (blk_cell BK402.out 2).trans rfl
              have hcz79_3 : wr.cell? ⟨gb402, 3, none⟩ = some (.string a0_3) := (blk_cell BK402.out 3).trans rfl
              have hcz79_4 : wr.cell? ⟨gb402, 4, none⟩ = some (.slice A0_4 l0_4.length c0_4) := (blk_cell BK402.out 4).trans rfl
              have hfz79_0 := blk_frozen BK402.out 0
              have hfz79_1 := blk_frozen BK402.out 1
              have hfz79_2 := blk_frozen BK402.out 2
              have hfz79_3 := blk_frozen BK402.out 3
              have hfz79_4 := blk_frozen BK402.out 4
              go_wp2
              go_ret2
              exact ⟨.slice none 0 0, by first | rfl | (simp [errW_none, errW_some] <;> rfl) | (simp [*, errW_none, errW_some] <;> rfl), Kd.V_nil _ _ _ _ _, by repeat (first | (with_reducible first | exact HB.out | apply below_alloc | apply pw_below_drewN | apply below_drew1 | refine below_set ?_ GE402.out) | exact HB.out)⟩
            ·rw [if_neg c69] at H
             exact absurd H (by simp)
        ·rw [if_neg c21] at H
         exact absurd H (by simp)
     ·rw [if_neg c14] at H
      exact absurd H (by simp)
    ·rw [if_neg c13] at H
     exact absurd H (by simp)

end Go.Proofs.YtabkdmfnafeaeaaDoor.Q
