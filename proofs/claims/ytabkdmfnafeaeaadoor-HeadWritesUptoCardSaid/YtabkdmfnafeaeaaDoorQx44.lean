-- Laid by lay.py, a program of this session's, out of the translation (the kit's printer with additions of ours). Lean checks it.
import Derived.Test.YtabkdmfnafeaeaaDoorQx0
import Derived.Test.YtabkdmfnafeaeaaDoorQx8
import Derived.Test.YtabkdmfnafeaeaaDoorQm1
import Derived.Test.YtabkdmfnafeaeaaDoorQx37
import Derived.Test.YtabkdmfnafeaeaaDoorQx42
import Derived.Test.YtabkdmfnafeaeaaDoorQx43
namespace Go.Proofs.YtabkdmfnafeaeaaDoor.Q
open Go.RowKit Go.Proofs.YtabkdmfnafeaeaaDoorW.PrintWords Go.Proofs.YtabkdmfnafeaeaaDoorW.PrintLast Go.Proofs.YtabkdmfnafeaeaaDoorW.PrintMore
attribute [local go_sem] max2_int min2_int max_two min_two max_three min_three max_four min_four   -- for this text's walks alone
attribute [local go_sem] fbin_eql fbin_neq fbin_lss fbin_leq fbin_gtr fbin_geq frun_add frun_sub frun_mul frun_quo frun_store fun_neg fcv_int fcv_same fb92 fb116
set_option linter.unusedVariables false
set_option linter.unusedSimpArgs false

/-! ### tollgatelaw09_HeadWrites: function 6 -/
def tollgatelaw09_HeadWrites.f (k : Nat) (a0_0 : ByteArray) (a0_1 : ByteArray) (a0_2 : ByteArray) (a0_3 : ByteArray) (l0_4 : List (S38)) (a1 : ByteArray) : Option (Bool) := (head_Write.f k a0_0 a0_1 a0_2 a0_3 l0_4).bind fun bt417 => ((tollgateref09_Write.f k a0_0 a0_1 a0_2 a0_3 l0_4).bind fun bt421 => ((head_Host.f k a1).bind fun bt425 => ((tollgateref09_Host.f k a1).bind fun bt427 => ((tollgatelaw09_live.f k).bind fun t429 => (if t429 = true then (if (strOfNums bt417.1).toList = (strOfNums bt421.1).toList then (if bt417.2 = bt421.2 then (if bt425.1.toList = bt427.1.toList then (some (bt425.2 == bt427.2)) else (some false)) else (some false)) else (some false)) else (some false))))))
theorem tollgatelaw09_HeadWrites.mono : ∀ a0 a1 a2 a3 a4 a5 k, LeO (tollgatelaw09_HeadWrites.f k a0 a1 a2 a3 a4 a5) (tollgatelaw09_HeadWrites.f (k + 1) a0 a1 a2 a3 a4 a5) := by
 intro a0 a1 a2 a3 a4 a5 k
 unfold tollgatelaw09_HeadWrites.f
 repeat' first
   | (with_reducible exact head_Host.mono _ _)
   | (with_reducible exact head_Write.mono _ _ _ _ _ _)
   | (with_reducible exact tollgatelaw09_live.mono _)
   | (with_reducible exact tollgateref09_Host.mono _ _)
   | (with_reducible exact tollgateref09_Write.mono _ _ _ _ _ _)
   | (with_reducible exact LeO.refl _)
   | (with_reducible exact LeO.none _)
   | (with_reducible refine LeO.ite ?_ ?_)
   | (with_reducible refine LeO.bind ?_ (fun _ => ?_))
   | exact head_Host.mono _ _
   | exact head_Write.mono _ _ _ _ _ _
   | exact tollgatelaw09_live.mono _
   | exact tollgateref09_Host.mono _ _
   | exact tollgateref09_Write.mono _ _ _ _ _ _
   | exact LeO.none _
   | refine LeO.ite ?_ ?_
   | refine LeO.bind ?_ (fun _ => ?_)
theorem V_string {P : Program} {w : World} {base e' : Nat} {ok : Nat → Prop} {src dst e : TypeId} {v : Value} {xs : List Int} (hs : P.underlying src = some (.slice e)) (he : P.underlying e = some (.int .u8)) (hd : P.underlying dst = some .string)
  (h : Kd.V (Kd.int .u8) e' w base ok v xs) : (convert src dst v).run P w = .ok (.string (strOfNums xs)) w := by
 obtain ⟨A, c, rfl, _, hf⟩ := h
 exact Kd.C_string hs he hd (Kd.F_now hf)
set_option maxHeartbeats 8000000 in
set_option maxRecDepth 100000 in
theorem tollgatelaw09_HeadWrites.calls (k : Nat) (a0_0 : ByteArray) (a0_1 : ByteArray) (a0_2 : ByteArray) (a0_3 : ByteArray) (A0_4 : Option Addr) (c0_4 : Nat) (l0_4 : List (S38)) (a1 : ByteArray) (r : Bool) (hr_ : r = true) (w : World) (hml : ML w) (hr0_4 : Kd.C k38 w A0_4 l0_4.length l0_4) (hc0_4 : l0_4.length ≤ c0_4) (h : tollgatelaw09_HeadWrites.f k a0_0 a0_1 a0_2 a0_3 l0_4 a1 = some r) :
  Calls Tryd.prog 6 #[.agg #[.string a0_0, .string a0_1, .string a0_2, .string a0_3, .slice A0_4 l0_4.length c0_4], .string a1] w fun e w' => e = .returned (.bool r) ∧ Below w.heap.size w w' := by
 have HML := Aside0.mk hml
 clear hml
 have HRT := Aside0.mk hr_
 clear hr_
 have hu25 := Tryd.underlying25
 have HR0_4 := Aside0.mk hr0_4
 have HC0_4 := Aside0.mk hc0_4
 clear hr0_4 hc0_4
 have HB := Aside0.mk (Below.refl w.heap.size w)
 have H : ((head_Write.f k a0_0 a0_1 a0_2 a0_3 l0_4).bind fun bt417 => ((tollgateref09_Write.f k a0_0 a0_1 a0_2 a0_3 l0_4).bind fun bt421 => ((head_Host.f k a1).bind fun bt425 => ((tollgateref09_Host.f k a1).bind fun bt427 => ((tollgatelaw09_live.f k).bind fun t429 => (if t429 = true then (if (strOfNums bt417.1).toList = (strOfNums bt421.1).toList then (if bt417.2 = bt421.2 then (if bt425.1.toList = bt427.1.toList then (some (bt425.2 == bt427.2)) else (some false)) else (some false)) else (some false)) else (some false))))))) = some r := h
 clear h
 replace H := Option.bind_eq_some_iff.mp H
 obtain ⟨⟨t417, t420⟩, A30, H⟩ := H
 replace H : ((tollgateref09_Write.f k a0_0 a0_1 a0_2 a0_3 l0_4).bind fun bt421 => ((head_Host.f k a1).bind fun bt425 => ((tollgateref09_Host.f k a1).bind fun bt427 => ((tollgatelaw09_live.f k).bind fun t429 => (if t429 = true then (if (strOfNums t417).toList = (strOfNums bt421.1).toList then (if t420 = bt421.2 then (if bt425.1.toList = bt427.1.toList then (some (bt425.2 == bt427.2)) else (some false)) else (some false)) else (some false)) else (some false)))))) = some r := H
 have A3 := Aside0.mk A30
 clear A30
 replace H := Option.bind_eq_some_iff.mp H
 obtain ⟨⟨t421, t424⟩, A40, H⟩ := H
 replace H : ((head_Host.f k a1).bind fun bt425 => ((tollgateref09_Host.f k a1).bind fun bt427 => ((tollgatelaw09_live.f k).bind fun t429 => (if t429 = true then (if (strOfNums t417).toList = (strOfNums t421).toList then (if t420 = t424 then (if bt425.1.toList = bt427.1.toList then (some (bt425.2 == bt427.2)) else (some false)) else (some false)) else (some false)) else (some false))))) = some r := H
 have A4 := Aside0.mk A40
 clear A40
 replace H := Option.bind_eq_some_iff.mp H
 obtain ⟨⟨t425, t426⟩, A50, H⟩ := H
 replace H : ((tollgateref09_Host.f k a1).bind fun bt427 => ((tollgatelaw09_live.f k).bind fun t429 => (if t429 = true then (if (strOfNums t417).toList = (strOfNums t421).toList then (if t420 = t424 then (if t425.toList = bt427.1.toList then (some (t426 == bt427.2)) else (some false)) else (some false)) else (some false)) else (some false)))) = some r := H
 have A5 := Aside0.mk A50
 clear A50
 replace H := Option.bind_eq_some_iff.mp H
 obtain ⟨⟨t427, t428⟩, A60, H⟩ := H
 replace H : ((tollgatelaw09_live.f k).bind fun t429 => (if t429 = true then (if (strOfNums t417).toList = (strOfNums t421).toList then (if t420 = t424 then (if t425.toList = t427.toList then (some (t426 == t428)) else (some false)) else (some false)) else (some false)) else (some false))) = some r := H
 have A6 := Aside0.mk A60
 clear A60
 replace H := Option.bind_eq_some_iff.mp H
 obtain ⟨t429, A70, H⟩ := H
 replace H : (if t429 = true then (if (strOfNums t417).toList = (strOfNums t421).toList then (if t420 = t424 then (if t425.toList = t427.toList then (some (t426 == t428)) else (some false)) else (some false)) else (some false)) else (some false)) = some r := H
 have A7 := Aside0.mk A70
 clear A70
 by_cases c8 : t429 = true
 ·subst c8
  have H1 : (if (strOfNums t417).toList = (strOfNums t421).toList then (if t420 = t424 then (if t425.toList = t427.toList then (some (t426 == t428)) else (some false)) else (some false)) else (some false)) = some r := by rw [if_pos rfl] at H; exact H
  clear H
  have H := H1
  clear H1
  by_cases c9 : (strOfNums t417).toList = (strOfNums t421).toList
  ·rw [if_pos c9] at H
   have c9b0 : ((strOfNums t417).toList == (strOfNums t421).toList) = true := beq_iff_eq.mpr c9
   have c9b1 : ((strOfNums t417).toList != (strOfNums t421).toList) = false := bne_eq_false_iff_eq.mpr c9
   clear c9
   by_cases c10 : t420 = t424
   ·rw [if_pos c10] at H
    have c10b0 : (t420 == t424) = true := beq_iff_eq.mpr c10
    have c10b1 : (t420 != t424) = false := bne_eq_false_iff_eq.mpr c10
    clear c10
    by_cases c11 : t425.toList = t427.toList
    ·rw [if_pos c11] at H
     have c11b0 : (t425.toList == t427.toList) = true := beq_iff_eq.mpr c11
     have c11b1 : (t425.toList != t427.toList) = false := bne_eq_false_iff_eq.mpr c11
     clear c11
     obtain rfl := Option.some.inj H
     go_enter Tryd.func6, Tryd.ntmps6
     go_wp2_with (first | ((with_reducible refine gate_dst (N := 2) rfl ?_); refine box_event ?hg (N := 2) ?hd (cs := #[.string a0_0, .string a0_1, .string a0_2, .string a0_3, .slice A0_4 l0_4.length c0_4]) (t := 25) ?hr ?_; (case hd => rfl); (case hg => rfl); (case hr => first | (go_simp; done) | (go_simp; rfl)); intro gb416 hg w12 hbox hb; have n0_ := Aside0.mk (below_step (by repeat (first | (with_reducible first | exact HB.out | apply below_alloc | apply pw_below_drewN | apply below_drew1) | exact HB.out)) hb); have n1_ := Aside0.mk (hbox); have n2_ := Aside0.mk ((by rw [hg]; exact (below_size (by repeat (first | (with_reducible first | exact HB.out | apply below_alloc | apply pw_below_drewN | apply below_drew1) | exact HB.out))) : w.heap.size ≤ gb416)); have n3_ := Aside0.mk ((by rw [hg]; exact (below_size (by repeat (first | (with_reducible first | exact HB.out | apply below_alloc | apply pw_below_drewN | apply below_drew1) | exact HB.out))) : w.heap.size ≤ gb416)); clear HB; have HB := n0_; have BK416 := n1_; have GW416 := n2_; have GE416 := n3_; clear n0_ n1_ n2_ n3_; clear hb hbox hg; have hcz13_0 : w12.cell? ⟨gb416, 0, none⟩ = some (.string a0_0) := (blk_cell BK416.out 0).trans rfl; have hcz13_1 : w12.cell? ⟨gb416, 1, none⟩ = some (.string a0_1) := (blk_cell BK416.out 1).trans rfl; have hcz13_2 : w12.cell? ⟨gb416, 2, none⟩ = some (.string a0_2) := (blk_cell BK416.out 2).trans rfl; have hcz13_3 : w12.cell? ⟨gb416, 3, none⟩ = some (.string a0_3) := (blk_cell BK416.out 3).trans rfl; have hcz13_4 : w12.cell? ⟨gb416, 4, none⟩ = some (.slice A0_4 l0_4.length c0_4) := (blk_cell BK416.out 4).trans rfl; have hfz13_0 := blk_frozen BK416.out 0; have hfz13_1 := blk_frozen BK416.out 1; have hfz13_2 := blk_frozen BK416.out 2; have hfz13_3 := blk_frozen BK416.out 3; have hfz13_4 := blk_frozen BK416.out 4) | ((with_reducible refine gate_callee (f := 21) rfl ?_); refine goesL_ (some 15) rfl rfl Tryd.func21 (by kernel_rfl) rfl #[.agg #[.string a0_0, .string a0_1, .string a0_2, .string a0_3, .slice A0_4 l0_4.length c0_4]] rfl (by (try simp only [List.map_toArray, List.map_cons, List.map_nil]); first | done | rfl | (simp only [List.length_drop, List.length_take]; rfl)) ?_; (with_reducible refine (head_Write.calls k a0_0 a0_1 a0_2 a0_3 _ _ l0_4 t417 t420 _ ?side1 ?side2 ?side3 A3.out).mono ?_); (case side1 => exact ML.keep HML.out (by repeat (first | (with_reducible first | exact HB.out | apply below_alloc | apply pw_below_drewN | apply below_drew1 | refine below_set ?_ GE416.out) | exact HB.out))); (case side2 => repeat (first | exact (Kd.C_below HR0_4.out HB.out) | (with_reducible refine Kd.C_alloc ?_ _) | (with_reducible refine Kd.C_drewN ?_ _) | (with_reducible refine Kd.C_drew ?_))); (case side3 => exact HC0_4.out); rintro e w14 ⟨v418, rfl, ho0, hb⟩; refine ⟨_, rfl, ?_⟩; have n0_ := Aside0.mk (Kd.V_lower (Kd.V_mono (ok' := fun k_ => k_ ≠ gb416) ho0 (fun k_ hk_ => (Kd.freshB (g := gb416) (o := .cells #[.string a0_0, .string a0_1, .string a0_2, .string a0_3, .slice A0_4 l0_4.length c0_4] 25 (0, 0)) (by (with_reducible repeat (first | refine blk_drewN ?_ _ | refine blk_drew ?_ | refine blk_alloc ?_ _)); exact BK416.out) k_ hk_))) (below_size (by repeat (first | (with_reducible first | exact HB.out | apply below_alloc | apply pw_below_drewN | apply below_drew1 | refine below_set ?_ GE416.out) | exact HB.out)))); have n1_ := Aside0.mk (blk_below (g := gb416) (o := .cells #[.string a0_0, .string a0_1, .string a0_2, .string a0_3, .slice A0_4 l0_4.length c0_4] 25 (0, 0)) (by (with_reducible repeat (first | refine blk_drewN ?_ _ | refine blk_drew ?_ | refine blk_alloc ?_ _)); exact BK416.out) hb); have n2_ := Aside0.mk (below_step (by repeat (first | (with_reducible first | exact HB.out | apply below_alloc | apply pw_below_drewN | apply below_drew1 | refine below_set ?_ GE416.out) | exact HB.out)) hb); clear BK416; clear HB; have HO419 := n0_; have BK416 := n1_; have HB := n2_; clear n0_ n1_ n2_; (try clear hb); (try clear hb2); (try clear hk); (try clear hi); (try clear ho0); have hcz15_0 : w14.cell? ⟨gb416, 0, none⟩ = some (.string a0_0) := (blk_cell BK416.out 0).trans rfl; have hcz15_1 : w14.cell? ⟨gb416, 1, none⟩ = some (.string a0_1) := (blk_cell BK416.out 1).trans rfl; have hcz15_2 : w14.cell? ⟨gb416, 2, none⟩ = some (.string a0_2) := (blk_cell BK416.out 2).trans rfl; have hcz15_3 : w14.cell? ⟨gb416, 3, none⟩ = some (.string a0_3) := (blk_cell BK416.out 3).trans rfl; have hcz15_4 : w14.cell? ⟨gb416, 4, none⟩ = some (.slice A0_4 l0_4.length c0_4) := (blk_cell BK416.out 4).trans rfl; have hfz15_0 := blk_frozen BK416.out 0; have hfz15_1 := blk_frozen BK416.out 1; have hfz15_2 := blk_frozen BK416.out 2; have hfz15_3 := blk_frozen BK416.out 3; have hfz15_4 := blk_frozen BK416.out 4) | ((with_reducible refine gate_callee (f := 22) rfl ?_); refine goesL_ (some 20) rfl rfl Tryd.func22 (by kernel_rfl) rfl #[.agg #[.string a0_0, .string a0_1, .string a0_2, .string a0_3, .slice A0_4 l0_4.length c0_4]] rfl (by (try simp only [List.map_toArray, List.map_cons, List.map_nil]); first | done | rfl | (simp only [List.length_drop, List.length_take]; rfl)) ?_; (with_reducible refine (tollgateref09_Write.calls k a0_0 a0_1 a0_2 a0_3 _ _ l0_4 t421 t424 _ ?side1 ?side2 A4.out).mono ?_); (case side1 => repeat (first | exact (Kd.C_below HR0_4.out HB.out) | (with_reducible refine Kd.C_alloc ?_ _) | (with_reducible refine Kd.C_drewN ?_ _) | (with_reducible refine Kd.C_drew ?_))); (case side2 => exact HC0_4.out); rintro e w16 ⟨v422, rfl, ho0, hb⟩; refine ⟨_, rfl, ?_⟩; have n0_ := Aside0.mk (Kd.V_below (by (with_reducible repeat (first | apply Kd.V_alloc | apply Kd.V_drewN | apply Kd.V_drew)); exact HO419.out) hb); have n1_ := Aside0.mk (Kd.V_lower (Kd.V_mono (ok' := fun k_ => k_ ≠ gb416) ho0 (fun k_ hk_ => (Kd.freshB (g := gb416) (o := .cells #[.string a0_0, .string a0_1, .string a0_2, .string a0_3, .slice A0_4 l0_4.length c0_4] 25 (0, 0)) (by (with_reducible repeat (first | refine blk_drewN ?_ _ | refine blk_drew ?_ | refine blk_alloc ?_ _)); exact BK416.out) k_ hk_))) (below_size (by repeat (first | (with_reducible first | exact HB.out | apply below_alloc | apply pw_below_drewN | apply below_drew1 | refine below_set ?_ GE416.out) | exact HB.out)))); have n2_ := Aside0.mk (blk_below (g := gb416) (o := .cells #[.string a0_0, .string a0_1, .string a0_2, .string a0_3, .slice A0_4 l0_4.length c0_4] 25 (0, 0)) (by (with_reducible repeat (first | refine blk_drewN ?_ _ | refine blk_drew ?_ | refine blk_alloc ?_ _)); exact BK416.out) hb); have n3_ := Aside0.mk (below_step (by repeat (first | (with_reducible first | exact HB.out | apply below_alloc | apply pw_below_drewN | apply below_drew1 | refine below_set ?_ GE416.out) | exact HB.out)) hb); clear HO419; clear BK416; clear HB; have HO419 := n0_; have HO423 := n1_; have BK416 := n2_; have HB := n3_; clear n0_ n1_ n2_ n3_; (try clear hb); (try clear hb2); (try clear hk); (try clear hi); (try clear ho0)) | ((with_reducible refine gate_callee (f := 18) rfl ?_); refine goesL_ (some 25) rfl rfl Tryd.func18 (by kernel_rfl) rfl #[.string a1] rfl (by (try simp only [List.map_toArray, List.map_cons, List.map_nil]); first | done | rfl | (simp only [List.length_drop, List.length_take]; rfl)) ?_; (with_reducible refine (head_Host.calls k a1 t425 t426 _ ?side1 A5.out).mono ?_); (case side1 => exact ML.keep HML.out (by repeat (first | (with_reducible first | exact HB.out | apply below_alloc | apply pw_below_drewN | apply below_drew1 | refine below_set ?_ GE416.out) | exact HB.out))); rintro e w17 ⟨rfl, hb⟩; refine ⟨_, rfl, ?_⟩; have n0_ := Aside0.mk (Kd.V_below (by (with_reducible repeat (first | apply Kd.V_alloc | apply Kd.V_drewN | apply Kd.V_drew)); exact HO419.out) hb); have n1_ := Aside0.mk (Kd.V_below (by (with_reducible repeat (first | apply Kd.V_alloc | apply Kd.V_drewN | apply Kd.V_drew)); exact HO423.out) hb); have n2_ := Aside0.mk (blk_below (g := gb416) (o := .cells #[.string a0_0, .string a0_1, .string a0_2, .string a0_3, .slice A0_4 l0_4.length c0_4] 25 (0, 0)) (by (with_reducible repeat (first | refine blk_drewN ?_ _ | refine blk_drew ?_ | refine blk_alloc ?_ _)); exact BK416.out) hb); have n3_ := Aside0.mk (below_step (by repeat (first | (with_reducible first | exact HB.out | apply below_alloc | apply pw_below_drewN | apply below_drew1 | refine below_set ?_ GE416.out) | exact HB.out)) hb); clear HO419; clear HO423; clear BK416; clear HB; have HO419 := n0_; have HO423 := n1_; have BK416 := n2_; have HB := n3_; clear n0_ n1_ n2_ n3_; (try clear hb); (try clear hb2); (try clear hk); (try clear hi)) | ((with_reducible refine gate_callee (f := 23) rfl ?_); refine goesL_ (some 30) rfl rfl Tryd.func23 (by kernel_rfl) rfl #[.string a1] rfl (by (try simp only [List.map_toArray, List.map_cons, List.map_nil]); first | done | rfl | (simp only [List.length_drop, List.length_take]; rfl)) ?_; (with_reducible refine (tollgateref09_Host.calls k a1 t427 t428 _ A6.out).mono ?_); rintro e w18 ⟨rfl, hb⟩; refine ⟨_, rfl, ?_⟩; have n0_ := Aside0.mk (Kd.V_below (by (with_reducible repeat (first | apply Kd.V_alloc | apply Kd.V_drewN | apply Kd.V_drew)); exact HO419.out) hb); have n1_ := Aside0.mk (Kd.V_below (by (with_reducible repeat (first | apply Kd.V_alloc | apply Kd.V_drewN | apply Kd.V_drew)); exact HO423.out) hb); have n2_ := Aside0.mk (blk_below (g := gb416) (o := .cells #[.string a0_0, .string a0_1, .string a0_2, .string a0_3, .slice A0_4 l0_4.length c0_4] 25 (0, 0)) (by (with_reducible repeat (first | refine blk_drewN ?_ _ | refine blk_drew ?_ | refine blk_alloc ?_ _)); exact BK416.out) hb); have n3_ := Aside0.mk (below_step (by repeat (first | (with_reducible first | exact HB.out | apply below_alloc | apply pw_below_drewN | apply below_drew1 | refine below_set ?_ GE416.out) | exact HB.out)) hb); clear HO419; clear HO423; clear BK416; clear HB; have HO419 := n0_; have HO423 := n1_; have BK416 := n2_; have HB := n3_; clear n0_ n1_ n2_ n3_; (try clear hb); (try clear hb2); (try clear hk); (try clear hi)) | ((with_reducible refine gate_callee (f := 16) rfl ?_); refine goesL_ (some 33) rfl rfl Tryd.func16 (by kernel_rfl) rfl #[] rfl (by (try simp only [List.map_toArray, List.map_cons, List.map_nil]); first | done | rfl | (simp only [List.length_drop, List.length_take]; rfl)) ?_; (with_reducible refine (tollgatelaw09_live.calls k  true _ ?side1 A7.out).mono ?_); (case side1 => exact ML.keep HML.out (by repeat (first | (with_reducible first | exact HB.out | apply below_alloc | apply pw_below_drewN | apply below_drew1 | refine below_set ?_ GE416.out) | exact HB.out))); rintro e w19 ⟨rfl, hb⟩; refine ⟨_, rfl, ?_⟩; have n0_ := Aside0.mk (Kd.V_below (by (with_reducible repeat (first | apply Kd.V_alloc | apply Kd.V_drewN | apply Kd.V_drew)); exact HO419.out) hb); have n1_ := Aside0.mk (Kd.V_below (by (with_reducible repeat (first | apply Kd.V_alloc | apply Kd.V_drewN | apply Kd.V_drew)); exact HO423.out) hb); have n2_ := Aside0.mk (blk_below (g := gb416) (o := .cells #[.string a0_0, .string a0_1, .string a0_2, .string a0_3, .slice A0_4 l0_4.length c0_4] 25 (0, 0)) (by (with_reducible repeat (first | refine blk_drewN ?_ _ | refine blk_drew ?_ | refine blk_alloc ?_ _)); exact BK416.out) hb); have n3_ := Aside0.mk (below_step (by repeat (first | (with_reducible first | exact HB.out | apply below_alloc | apply pw_below_drewN | apply below_drew1 | refine below_set ?_ GE416.out) | exact HB.out)) hb); clear HO419; clear HO423; clear BK416; clear HB; have HO419 := n0_; have HO423 := n1_; have BK416 := n2_; have HB := n3_; clear n0_ n1_ n2_ n3_; (try clear hb); (try clear hb2); (try clear hk); (try clear hi); have hcv20 := V_string (P := Tryd.prog) Tryd.underlying22 Tryd.underlying5 Tryd.underlying9 HO419.out; have hcv21 := V_string (P := Tryd.prog) Tryd.underlying22 Tryd.underlying5 Tryd.underlying9 HO423.out))
     go_ret
     exact ⟨by first | rfl | (simp [errW_none, errW_some] <;> rfl) | (simp [*, errW_none, errW_some] <;> rfl), by repeat (first | (with_reducible first | exact HB.out | apply below_alloc | apply pw_below_drewN | apply below_drew1 | refine below_set ?_ GE416.out) | exact HB.out)⟩
    ·rw [if_neg c11] at H
     have c11b0 : (t425.toList == t427.toList) = false := beq_eq_false_iff_ne.mpr c11
     have c11b1 : (t425.toList != t427.toList) = true := bne_iff_ne.mpr c11
     exact absurd ((Option.some.inj H).trans HRT.out) (by decide)
   ·rw [if_neg c10] at H
    have c10b0 : (t420 == t424) = false := beq_eq_false_iff_ne.mpr c10
    have c10b1 : (t420 != t424) = true := bne_iff_ne.mpr c10
    exact absurd ((Option.some.inj H).trans HRT.out) (by decide)
  ·rw [if_neg c9] at H
   have c9b0 : ((strOfNums t417).toList == (strOfNums t421).toList) = false := beq_eq_false_iff_ne.mpr c9
   have c9b1 : ((strOfNums t417).toList != (strOfNums t421).toList) = true := bne_iff_ne.mpr c9
   exact absurd ((Option.some.inj H).trans HRT.out) (by decide)
 ·replace c8 := Bool.eq_false_iff.mpr c8
  subst c8
  have H1 : (some false) = some r := by rw [if_neg (show ¬ (false = true) by decide)] at H; exact H
  clear H
  have H := H1
  clear H1
  exact absurd ((Option.some.inj H).trans HRT.out) (by decide)

end Go.Proofs.YtabkdmfnafeaeaaDoor.Q
