-- Laid by lay.py, a program of this session's, out of the translation (the kit's printer with additions of ours). Lean checks it.
import Derived.Test.YtabkdmfnafeaeaaDoorRx0
import Derived.Test.YtabkdmfnafeaeaaDoorRx23
namespace Go.Proofs.YtabkdmfnafeaeaaDoor.R
open Go.RowKit Go.Proofs.YtabkdmfnafeaeaaDoorW.PrintWords Go.Proofs.YtabkdmfnafeaeaaDoorW.PrintLast Go.Proofs.YtabkdmfnafeaeaaDoorW.PrintMore
attribute [local go_sem] max2_int min2_int max_two min_two max_three min_three max_four min_four   -- for this text's walks alone
attribute [local go_sem] fbin_eql fbin_neq fbin_lss fbin_leq fbin_gtr fbin_geq frun_add frun_sub frun_mul frun_quo frun_store fun_neg fcv_int fcv_same fb92 fb116
set_option linter.unusedVariables false
set_option linter.unusedSimpArgs false

/-! ### tollgatelaw09_live: function 16 -/
def tollgatelaw09_live.f (k : Nat)  : Option (Bool) := (head_Parse.f k (([71, 69, 84, 32, 47, 97, 63, 98, 32, 72, 84, 84, 80, 47, 49, 46, 49, 13, 10, 72, 111, 115, 116, 58, 32, 88, 46, 121, 58, 56, 48, 13, 10, 13, 10, 98, 111, 100, 121] : List Int))).bind fun bt267 => (if bt267.2.2.2.2.2.2 = 0 then (if bt267.2.2.2.2.2.1 = 35 then (if bt267.1.toList = ([71, 69, 84] : List UInt8) then (if bt267.2.1.toList = ([47, 97] : List UInt8) then (if bt267.2.2.1.toList = ([98] : List UInt8) then (if bt267.2.2.2.1.toList = ([120, 46, 121] : List UInt8) then (some ((bt267.2.2.2.2.1.length : Int) == 1)) else (some false)) else (some false)) else (some false)) else (some false)) else (some false)) else (some false))
theorem tollgatelaw09_live.mono : ∀ k, LeO (tollgatelaw09_live.f k ) (tollgatelaw09_live.f (k + 1) ) := by
 intro  k
 unfold tollgatelaw09_live.f
 repeat' first
   | (with_reducible exact head_Parse.mono _ _)
   | (with_reducible exact LeO.refl _)
   | (with_reducible exact LeO.none _)
   | (with_reducible refine LeO.ite ?_ ?_)
   | (with_reducible refine LeO.bind ?_ (fun _ => ?_))
   | exact head_Parse.mono _ _
   | exact LeO.none _
   | refine LeO.ite ?_ ?_
   | refine LeO.bind ?_ (fun _ => ?_)
set_option maxHeartbeats 8000000 in
set_option maxRecDepth 100000 in
theorem tollgatelaw09_live.calls0 (k : Nat)  (r : Bool) (hr_ : r = true) (w : World) (hml : ML w) (h : tollgatelaw09_live.f k  = some r) :
  Calls Tryd.prog 16 #[] w fun e w' => e = .returned (.bool r) ∧ Below w.heap.size w w' := by
 have HML := Aside0.mk hml
 clear hml
 have kcb := fun (w_ : World) (C_ : Array Value) (n_ c_ : Nat) => Lib.run_convert_bytes_const (P := Tryd.prog) w_ 22 5 C_ n_ c_ Tryd.underlying22 Tryd.underlying5
 have HRT := Aside0.mk hr_
 clear hr_
 have hu25 := Tryd.underlying25
 have HB := Aside0.mk (Below.refl w.heap.size w)
 have H : ((head_Parse.f k (([71, 69, 84, 32, 47, 97, 63, 98, 32, 72, 84, 84, 80, 47, 49, 46, 49, 13, 10, 72, 111, 115, 116, 58, 32, 88, 46, 121, 58, 56, 48, 13, 10, 13, 10, 98, 111, 100, 121] : List Int))).bind fun bt267 => (if bt267.2.2.2.2.2.2 = 0 then (if bt267.2.2.2.2.2.1 = 35 then (if bt267.1.toList = ([71, 69, 84] : List UInt8) then (if bt267.2.1.toList = ([47, 97] : List UInt8) then (if bt267.2.2.1.toList = ([98] : List UInt8) then (if bt267.2.2.2.1.toList = ([120, 46, 121] : List UInt8) then (some ((bt267.2.2.2.2.1.length : Int) == 1)) else (some false)) else (some false)) else (some false)) else (some false)) else (some false)) else (some false))) = some r := h
 clear h
 obtain ⟨y264, hy264⟩ : ∃ y_ : List Int, y_ = (([71, 69, 84, 32, 47, 97, 63, 98, 32, 72, 84, 84, 80, 47, 49, 46, 49, 13, 10, 72, 111, 115, 116, 58, 32, 88, 46, 121, 58, 56, 48, 13, 10, 13, 10, 98, 111, 100, 121] : List Int)) := ⟨_, rfl⟩
 replace H : ((head_Parse.f k y264).bind fun bt267 => (if bt267.2.2.2.2.2.2 = 0 then (if bt267.2.2.2.2.2.1 = 35 then (if bt267.1.toList = ([71, 69, 84] : List UInt8) then (if bt267.2.1.toList = ([47, 97] : List UInt8) then (if bt267.2.2.1.toList = ([98] : List UInt8) then (if bt267.2.2.2.1.toList = ([120, 46, 121] : List UInt8) then (some ((bt267.2.2.2.2.1.length : Int) == 1)) else (some false)) else (some false)) else (some false)) else (some false)) else (some false)) else (some false))) = some r := by first | (rw [hy264]; with_reducible exact H) | (have H2_ := (Option.bind_some _ _).symm.trans H; rw [hy264]; with_reducible exact H2_) | (have H2_ := (Option.bind_some _ _).symm.trans H; with_reducible exact H2_) | with_reducible exact H | (rw [hy264]; exact H) | exact H
 have Ny264 := Aside0.mk hy264
 clear hy264
 replace H := Option.bind_eq_some_iff.mp H
 obtain ⟨⟨t267, t268, t269, t270, t271, t274, t275⟩, A10, H⟩ := H
 replace H : (if t275 = 0 then (if t274 = 35 then (if t267.toList = ([71, 69, 84] : List UInt8) then (if t268.toList = ([47, 97] : List UInt8) then (if t269.toList = ([98] : List UInt8) then (if t270.toList = ([120, 46, 121] : List UInt8) then (some ((t271.length : Int) == 1)) else (some false)) else (some false)) else (some false)) else (some false)) else (some false)) else (some false)) = some r := H
 have A1 := Aside0.mk A10
 clear A10
 by_cases c2 : t275 = 0
 ·rw [if_pos c2] at H
  have c2b0 : (t275 == 0) = true := beq_iff_eq.mpr c2
  have c2b1 : (t275 != 0) = false := bne_eq_false_iff_eq.mpr c2
  clear c2
  by_cases c3 : t274 = 35
  ·rw [if_pos c3] at H
   have c3b0 : (t274 == 35) = true := beq_iff_eq.mpr c3
   have c3b1 : (t274 != 35) = false := bne_eq_false_iff_eq.mpr c3
   clear c3
   by_cases c4 : t267.toList = ([71, 69, 84] : List UInt8)
   ·rw [if_pos c4] at H
    have c4b0 : (t267.toList == ([71, 69, 84] : List UInt8)) = true := beq_iff_eq.mpr c4
    have c4b1 : (t267.toList != ([71, 69, 84] : List UInt8)) = false := bne_eq_false_iff_eq.mpr c4
    clear c4
    by_cases c5 : t268.toList = ([47, 97] : List UInt8)
    ·rw [if_pos c5] at H
     have c5b0 : (t268.toList == ([47, 97] : List UInt8)) = true := beq_iff_eq.mpr c5
     have c5b1 : (t268.toList != ([47, 97] : List UInt8)) = false := bne_eq_false_iff_eq.mpr c5
     clear c5
     by_cases c6 : t269.toList = ([98] : List UInt8)
     ·rw [if_pos c6] at H
      have c6b0 : (t269.toList == ([98] : List UInt8)) = true := beq_iff_eq.mpr c6
      have c6b1 : (t269.toList != ([98] : List UInt8)) = false := bne_eq_false_iff_eq.mpr c6
      clear c6
      by_cases c7 : t270.toList = ([120, 46, 121] : List UInt8)
      ·rw [if_pos c7] at H
       have c7b0 : (t270.toList == ([120, 46, 121] : List UInt8)) = true := beq_iff_eq.mpr c7
       have c7b1 : (t270.toList != ([120, 46, 121] : List UInt8)) = false := bne_eq_false_iff_eq.mpr c7
       clear c7
       obtain rfl := Option.some.inj H
       go_enter Tryd.func16, Tryd.ntmps16
       go_wp2_with (first | ((with_reducible refine gate_dst (N := 6) rfl ?_); (try (refine gate_guard (by rfl) ?_; dsimp only)); refine Kd.V_lit (Kd.int .u8) _ 5 ?hg (N := 6) ?hd (xs := ([71, 69, 84, 32, 47, 97, 63, 98, 32, 72, 84, 84, 80, 47, 49, 46, 49, 13, 10, 72, 111, 115, 116, 58, 32, 88, 46, 121, 58, 56, 48, 13, 10, 13, 10, 98, 111, 100, 121] : List Int)) (inner := [.int .u8 71, .int .u8 69, .int .u8 84, .int .u8 32, .int .u8 47, .int .u8 97, .int .u8 63, .int .u8 98, .int .u8 32, .int .u8 72, .int .u8 84, .int .u8 84, .int .u8 80, .int .u8 47, .int .u8 49, .int .u8 46, .int .u8 49, .int .u8 13, .int .u8 10, .int .u8 72, .int .u8 111, .int .u8 115, .int .u8 116, .int .u8 58, .int .u8 32, .int .u8 88, .int .u8 46, .int .u8 121, .int .u8 58, .int .u8 56, .int .u8 48, .int .u8 13, .int .u8 10, .int .u8 13, .int .u8 10, .int .u8 98, .int .u8 111, .int .u8 100, .int .u8 121]) (ok := fun k_ => w.heap.size ≤ k_) (okp := fun _ => False) ?hr ?hp (fun _ hk => hk.elim) (Nat.le_refl _) (Below.refl _ _) (Nat.le_refl _) (by simp) ?_; (case hd => rfl); (case hg => rfl); (case hr => first | (go_simp; done) | (go_simp; rfl)); (case hp => exact (Reps.one (show Kd.M (Kd.int .u8) _ _ _ 71 [.int .u8 71] from rfl) (Reps.one (show Kd.M (Kd.int .u8) _ _ _ 69 [.int .u8 69] from rfl) (Reps.one (show Kd.M (Kd.int .u8) _ _ _ 84 [.int .u8 84] from rfl) (Reps.one (show Kd.M (Kd.int .u8) _ _ _ 32 [.int .u8 32] from rfl) (Reps.one (show Kd.M (Kd.int .u8) _ _ _ 47 [.int .u8 47] from rfl) (Reps.one (show Kd.M (Kd.int .u8) _ _ _ 97 [.int .u8 97] from rfl) (Reps.one (show Kd.M (Kd.int .u8) _ _ _ 63 [.int .u8 63] from rfl) (Reps.one (show Kd.M (Kd.int .u8) _ _ _ 98 [.int .u8 98] from rfl) (Reps.one (show Kd.M (Kd.int .u8) _ _ _ 32 [.int .u8 32] from rfl) (Reps.one (show Kd.M (Kd.int .u8) _ _ _ 72 [.int .u8 72] from rfl) (Reps.one (show Kd.M (Kd.int .u8) _ _ _ 84 [.int .u8 84] from rfl) (Reps.one (show Kd.M (Kd.int .u8) _ _ _ 84 [.int .u8 84] from rfl) (Reps.one (show Kd.M (Kd.int .u8) _ _ _ 80 [.int .u8 80] from rfl) (Reps.one (show Kd.M (Kd.int .u8) _ _ _ 47 [.int .u8 47] from rfl) (Reps.one (show Kd.M (Kd.int .u8) _ _ _ 49 [.int .u8 49] from rfl) (Reps.one (show Kd.M (Kd.int .u8) _ _ _ 46 [.int .u8 46] from rfl) (Reps.one (show Kd.M (Kd.int .u8) _ _ _ 49 [.int .u8 49] from rfl) (Reps.one (show Kd.M (Kd.int .u8) _ _ _ 13 [.int .u8 13] from rfl) (Reps.one (show Kd.M (Kd.int .u8) _ _ _ 10 [.int .u8 10] from rfl) (Reps.one (show Kd.M (Kd.int .u8) _ _ _ 72 [.int .u8 72] from rfl) (Reps.one (show Kd.M (Kd.int .u8) _ _ _ 111 [.int .u8 111] from rfl) (Reps.one (show Kd.M (Kd.int .u8) _ _ _ 115 [.int .u8 115] from rfl) (Reps.one (show Kd.M (Kd.int .u8) _ _ _ 116 [.int .u8 116] from rfl) (Reps.one (show Kd.M (Kd.int .u8) _ _ _ 58 [.int .u8 58] from rfl) (Reps.one (show Kd.M (Kd.int .u8) _ _ _ 32 [.int .u8 32] from rfl) (Reps.one (show Kd.M (Kd.int .u8) _ _ _ 88 [.int .u8 88] from rfl) (Reps.one (show Kd.M (Kd.int .u8) _ _ _ 46 [.int .u8 46] from rfl) (Reps.one (show Kd.M (Kd.int .u8) _ _ _ 121 [.int .u8 121] from rfl) (Reps.one (show Kd.M (Kd.int .u8) _ _ _ 58 [.int .u8 58] from rfl) (Reps.one (show Kd.M (Kd.int .u8) _ _ _ 56 [.int .u8 56] from rfl) (Reps.one (show Kd.M (Kd.int .u8) _ _ _ 48 [.int .u8 48] from rfl) (Reps.one (show Kd.M (Kd.int .u8) _ _ _ 13 [.int .u8 13] from rfl) (Reps.one (show Kd.M (Kd.int .u8) _ _ _ 10 [.int .u8 10] from rfl) (Reps.one (show Kd.M (Kd.int .u8) _ _ _ 13 [.int .u8 13] from rfl) (Reps.one (show Kd.M (Kd.int .u8) _ _ _ 10 [.int .u8 10] from rfl) (Reps.one (show Kd.M (Kd.int .u8) _ _ _ 98 [.int .u8 98] from rfl) (Reps.one (show Kd.M (Kd.int .u8) _ _ _ 111 [.int .u8 111] from rfl) (Reps.one (show Kd.M (Kd.int .u8) _ _ _ 100 [.int .u8 100] from rfl) (Reps.one (show Kd.M (Kd.int .u8) _ _ _ 121 [.int .u8 121] from rfl) (Reps.none _ _))))))))))))))))))))))))))))))))))))))))); intro v265 w8 ho9 hb hg_ hnew_; clear hg_ hnew_; (first | rw [← Ny264.out] at ho9 | (simp only [Int.reduceToNat] at ho9; rw [← Ny264.out] at ho9)); have n0_ := Aside0.mk (Kd.V_lower (Kd.V_mono (ok' := fun k_ => True) ho9 (fun k_ hk_ => trivial)) (below_size (by repeat (first | (with_reducible first | exact HB.out | apply below_alloc | apply pw_below_drewN | apply below_drew1) | exact HB.out)))); have n1_ := Aside0.mk (below_step (by repeat (first | (with_reducible first | exact HB.out | apply below_alloc | apply pw_below_drewN | apply below_drew1) | exact HB.out)) hb); clear HB; have HO266 := n0_; have HB := n1_; clear n0_ n1_; clear hb ho9; obtain ⟨Ao10, co10, eo10⟩ := Kd.V_slice HO266.out; subst eo10) | ((with_reducible refine gate_callee (f := 14) rfl ?_); refine goesL_ (some 7) rfl rfl Tryd.func14 (by kernel_rfl) rfl #[.slice Ao10 y264.length co10] rfl (by (try simp only [List.map_toArray, List.map_cons, List.map_nil]); first | done | rfl | (simp only [List.length_drop, List.length_take]; rfl)) ?_; (with_reducible refine (head_Parse.calls k _ _ y264 t267 t268 t269 t270 t271 t274 t275 _ ?side1 ?side2 ?side3 A1.out).mono ?_); (case side1 => exact ML.keep HML.out (by repeat (first | (with_reducible first | exact HB.out | apply below_alloc | apply pw_below_drewN | apply below_drew1) | exact HB.out))); (case side2 => repeat (first | exact (Kd.V_reads' HO266.out).2.2 | (with_reducible refine Kd.C_alloc ?_ _) | (with_reducible refine Kd.C_drewN ?_ _) | (with_reducible refine Kd.C_drew ?_))); (case side3 => exact (Kd.V_reads' HO266.out).2.1); rintro e w11 ⟨v272, rfl, ho0, hb⟩; refine ⟨_, rfl, ?_⟩; have n0_ := Aside0.mk (Kd.V_elder' (by (with_reducible repeat (first | apply Kd.V_alloc | apply Kd.V_drewN | apply Kd.V_drew)); exact HO266.out) (Kd.R_base ho0) hb); have n1_ := Aside0.mk (Kd.R_lower ho0 (below_size (by repeat (first | (with_reducible first | exact HB.out | apply below_alloc | apply pw_below_drewN | apply below_drew1) | exact HB.out)))); have n2_ := Aside0.mk (below_step (by repeat (first | (with_reducible first | exact HB.out | apply below_alloc | apply pw_below_drewN | apply below_drew1) | exact HB.out)) hb); clear HO266; clear HB; have HO266 := n0_; have HO273 := n1_; have HB := n2_; clear n0_ n1_ n2_; (try clear hb); (try clear hb2); (try clear hk); (try clear hi); (try clear ho0)) | ((with_reducible refine gate_dst (N := 1) rfl ?_); (try (refine gate_guard (by rfl) ?_; dsimp only)); refine box_event ?hg (N := 1) ?hd (cs := #[.string (⟨#[]⟩ : ByteArray), .string (⟨#[]⟩ : ByteArray), .string (⟨#[]⟩ : ByteArray), .string (⟨#[]⟩ : ByteArray), .slice none 0 0]) (t := 25) ?hr ?_; (case hd => rfl); (case hg => rfl); (case hr => first | (go_simp; done) | (go_simp; rfl)); intro gb276 hg w12 hbox hb; have n0_ := Aside0.mk (Kd.V_below (Kd.V_elderB (by (with_reducible repeat (first | apply Kd.V_alloc | apply Kd.V_drewN | apply Kd.V_drew)); exact HO266.out) gb276 (Nat.le_of_eq hg.symm)) hb); have n1_ := Aside0.mk (Kd.R_below (by (with_reducible repeat (first | apply Kd.R_alloc | apply Kd.R_drewN | apply Kd.R_drew)); exact HO273.out) hb); have n2_ := Aside0.mk (below_step (by repeat (first | (with_reducible first | exact HB.out | apply below_alloc | apply pw_below_drewN | apply below_drew1) | exact HB.out)) hb); have n3_ := Aside0.mk (hbox); have n4_ := Aside0.mk ((by rw [hg]; exact (below_size (by repeat (first | (with_reducible first | exact HB.out | apply below_alloc | apply pw_below_drewN | apply below_drew1) | exact HB.out))) : w.heap.size ≤ gb276)); have n5_ := Aside0.mk ((by rw [hg]; exact (below_size (by repeat (first | (with_reducible first | exact HB.out | apply below_alloc | apply pw_below_drewN | apply below_drew1) | exact HB.out))) : w.heap.size ≤ gb276)); clear HO266; clear HO273; clear HB; have HO266 := n0_; have HO273 := n1_; have HB := n2_; have BK276 := n3_; have GW276 := n4_; have GE276 := n5_; clear n0_ n1_ n2_ n3_ n4_ n5_; clear hb hbox hg; have hcz13_0 : w12.cell? ⟨gb276, 0, none⟩ = some (.string (⟨#[]⟩ : ByteArray)) := (blk_cell BK276.out 0).trans rfl; have hcz13_1 : w12.cell? ⟨gb276, 1, none⟩ = some (.string (⟨#[]⟩ : ByteArray)) := (blk_cell BK276.out 1).trans rfl; have hcz13_2 : w12.cell? ⟨gb276, 2, none⟩ = some (.string (⟨#[]⟩ : ByteArray)) := (blk_cell BK276.out 2).trans rfl; have hcz13_3 : w12.cell? ⟨gb276, 3, none⟩ = some (.string (⟨#[]⟩ : ByteArray)) := (blk_cell BK276.out 3).trans rfl; have hcz13_4 : w12.cell? ⟨gb276, 4, none⟩ = some (.slice none 0 0) := (blk_cell BK276.out 4).trans rfl; have hfz13_0 := blk_frozen BK276.out 0; have hfz13_1 := blk_frozen BK276.out 1; have hfz13_2 := blk_frozen BK276.out 2; have hfz13_3 := blk_frozen BK276.out 3; have hfz13_4 := blk_frozen BK276.out 4; obtain ⟨Ao14, co14, eo14⟩ := Kd.R_slice HO273.out; subst eo14))
       go_ret
       exact ⟨by first | rfl | (simp [errW_none, errW_some] <;> rfl) | (simp [*, errW_none, errW_some] <;> rfl), by repeat (first | (with_reducible first | exact HB.out | apply below_alloc | apply pw_below_drewN | apply below_drew1 | refine below_set ?_ GE276.out) | exact HB.out)⟩
      ·rw [if_neg c7] at H
       have c7b0 : (t270.toList == ([120, 46, 121] : List UInt8)) = false := beq_eq_false_iff_ne.mpr c7
       have c7b1 : (t270.toList != ([120, 46, 121] : List UInt8)) = true := bne_iff_ne.mpr c7
       exact absurd ((Option.some.inj H).trans HRT.out) (by decide)
     ·rw [if_neg c6] at H
      have c6b0 : (t269.toList == ([98] : List UInt8)) = false := beq_eq_false_iff_ne.mpr c6
      have c6b1 : (t269.toList != ([98] : List UInt8)) = true := bne_iff_ne.mpr c6
      exact absurd ((Option.some.inj H).trans HRT.out) (by decide)
    ·rw [if_neg c5] at H
     have c5b0 : (t268.toList == ([47, 97] : List UInt8)) = false := beq_eq_false_iff_ne.mpr c5
     have c5b1 : (t268.toList != ([47, 97] : List UInt8)) = true := bne_iff_ne.mpr c5
     exact absurd ((Option.some.inj H).trans HRT.out) (by decide)
   ·rw [if_neg c4] at H
    have c4b0 : (t267.toList == ([71, 69, 84] : List UInt8)) = false := beq_eq_false_iff_ne.mpr c4
    have c4b1 : (t267.toList != ([71, 69, 84] : List UInt8)) = true := bne_iff_ne.mpr c4
    exact absurd ((Option.some.inj H).trans HRT.out) (by decide)
  ·rw [if_neg c3] at H
   have c3b0 : (t274 == 35) = false := beq_eq_false_iff_ne.mpr c3
   have c3b1 : (t274 != 35) = true := bne_iff_ne.mpr c3
   exact absurd ((Option.some.inj H).trans HRT.out) (by decide)
 ·rw [if_neg c2] at H
  have c2b0 : (t275 == 0) = false := beq_eq_false_iff_ne.mpr c2
  have c2b1 : (t275 != 0) = true := bne_iff_ne.mpr c2
  exact absurd ((Option.some.inj H).trans HRT.out) (by decide)
theorem tollgatelaw09_live.only {k : Nat} {r : Bool} (h : tollgatelaw09_live.f k = some r) : r = true := by
 have h1 : tollgatelaw09_live.f 60 = some true := by decide +kernel
 have hm : ∀ k, LeO (tollgatelaw09_live.f k) (tollgatelaw09_live.f (k + 1)) := fun k => tollgatelaw09_live.mono k
 rcases Nat.le_total k 60 with hk | hk
 ·have h2 := at_rounds hm hk h
  rw [h1] at h2
  exact (Option.some.inj h2).symm
 ·have h2 := at_rounds hm hk h1
  rw [h] at h2
  exact Option.some.inj h2
theorem tollgatelaw09_live.calls (k : Nat)  (r : Bool) (w : World) (hml : ML w) (h : tollgatelaw09_live.f k  = some r) :
  Calls Tryd.prog 16 #[] w fun e w' => e = .returned (.bool r) ∧ Below w.heap.size w w' :=
 tollgatelaw09_live.calls0 k r (tollgatelaw09_live.only h) w hml h

end Go.Proofs.YtabkdmfnafeaeaaDoor.R
