-- Laid by lay.py, a program of this session's, out of the translation (the kit's printer with additions of ours). Lean checks it.
import Derived.Test.YtabkdmfnafeaeaaDoorQx0
import Derived.Test.YtabkdmfnafeaeaaDoorQx24
import Derived.Test.YtabkdmfnafeaeaaDoorQx37
import Derived.Test.YtabkdmfnafeaeaaDoorQx38
import Derived.Test.YtabkdmfnafeaeaaDoorQx42
namespace Go.Proofs.YtabkdmfnafeaeaaDoor.Q
open Go.RowKit Go.Proofs.YtabkdmfnafeaeaaDoorW.PrintWords Go.Proofs.YtabkdmfnafeaeaaDoorW.PrintLast Go.Proofs.YtabkdmfnafeaeaaDoorW.PrintMore
attribute [local go_sem] max2_int min2_int max_two min_two max_three min_three max_four min_four   -- for this text's walks alone
attribute [local go_sem] fbin_eql fbin_neq fbin_lss fbin_leq fbin_gtr fbin_geq frun_add frun_sub frun_mul frun_quo frun_store fun_neg fcv_int fcv_same fb92 fb116
set_option linter.unusedVariables false
set_option linter.unusedSimpArgs false

/-! ### tollgatelaw09_HeadCuts: function 9 -/
def tollgatelaw09_HeadCuts.j0 : Nat → Int → List Int → Int → Bool → Option (Bool)
 | 0, _, _, _, _ => none
 | k + 1, x1, x5, x6, x21 => if x21 = true then ((tollgatelaw09_live.f k).bind fun t497 => (if t497 = true then (some (x6 != 0)) else (some false))) else (if (IntKind.u64.wrap ((x5.length : Int))) = 0 then (none) else (if 0 ≤ (wrap64 (Int.tmod (IntKind.u64.wrap (x1)) (IntKind.u64.wrap ((x5.length : Int))))) then (if (wrap64 (Int.tmod (IntKind.u64.wrap (x1)) (IntKind.u64.wrap ((x5.length : Int))))) ≤ (x5.length : Int) then ((head_Parse.f k (x5.take ((wrap64 (Int.tmod (IntKind.u64.wrap (x1)) (IntKind.u64.wrap ((x5.length : Int))))) : Int).toNat)).bind fun bt503 => ((tollgatelaw09_live.f k).bind fun t513 => (if t513 = true then (if bt503.2.2.2.2.2.2 = 3 then (if bt503.2.2.2.2.2.1 = 0 then ((tollgateref09_Same.f k bt503.1 bt503.2.1 bt503.2.2.1 bt503.2.2.2.1 bt503.2.2.2.2.1 (⟨#[]⟩ : ByteArray) (⟨#[]⟩ : ByteArray) (⟨#[]⟩ : ByteArray) (⟨#[]⟩ : ByteArray) ([] : List (S38))).bind fun t514 => (some t514)) else (some false)) else (some false)) else (some false)))) else (none)) else (none)))
def tollgatelaw09_HeadCuts.f (k : Nat) (a0_0 : ByteArray) (a0_1 : ByteArray) (a0_2 : ByteArray) (a0_3 : ByteArray) (l0_4 : List (S38)) (a1 : Int) : Option (Bool) := (head_Write.f k a0_0 a0_1 a0_2 a0_3 l0_4).bind fun bt493 => (if bt493.2 = 0 then (tollgatelaw09_HeadCuts.j0 k a1 bt493.1 bt493.2 ((bt493.1.length : Int) == 0)) else (tollgatelaw09_HeadCuts.j0 k a1 bt493.1 bt493.2 true))
theorem tollgatelaw09_HeadCuts.mono_l : ∀ k, (∀ y0 y1 y2 y3, LeO (tollgatelaw09_HeadCuts.j0 k y0 y1 y2 y3) (tollgatelaw09_HeadCuts.j0 (k + 1) y0 y1 y2 y3))
 | 0 => fun _ _ _ _ r h => by simp [tollgatelaw09_HeadCuts.j0] at h
 | k + 1 => by
  have ih0 := tollgatelaw09_HeadCuts.mono_l k
  ·intro y0 y1 y2 y3
   unfold tollgatelaw09_HeadCuts.j0
   repeat' first
   | (with_reducible exact ih0 _ _ _ _)
   | (with_reducible exact head_Parse.mono _ _)
   | (with_reducible exact head_Write.mono _ _ _ _ _ _)
   | (with_reducible exact tollgatelaw09_live.mono _)
   | (with_reducible exact tollgateref09_Same.mono _ _ _ _ _ _ _ _ _ _ _)
   | (with_reducible exact LeO.refl _)
   | (with_reducible exact LeO.none _)
   | (with_reducible refine LeO.ite ?_ ?_)
   | (with_reducible refine LeO.bind ?_ (fun _ => ?_))
   | exact ih0 _ _ _ _
   | exact head_Parse.mono _ _
   | exact head_Write.mono _ _ _ _ _ _
   | exact tollgatelaw09_live.mono _
   | exact tollgateref09_Same.mono _ _ _ _ _ _ _ _ _ _ _
   | exact LeO.none _
   | refine LeO.ite ?_ ?_
   | refine LeO.bind ?_ (fun _ => ?_)
theorem tollgatelaw09_HeadCuts.mono : ∀ a0 a1 a2 a3 a4 a5 k, LeO (tollgatelaw09_HeadCuts.f k a0 a1 a2 a3 a4 a5) (tollgatelaw09_HeadCuts.f (k + 1) a0 a1 a2 a3 a4 a5) := by
 intro a0 a1 a2 a3 a4 a5 k
 have ih0 := tollgatelaw09_HeadCuts.mono_l k
 unfold tollgatelaw09_HeadCuts.f
 repeat' first
   | (with_reducible exact ih0 _ _ _ _)
   | (with_reducible exact head_Parse.mono _ _)
   | (with_reducible exact head_Write.mono _ _ _ _ _ _)
   | (with_reducible exact tollgatelaw09_live.mono _)
   | (with_reducible exact tollgateref09_Same.mono _ _ _ _ _ _ _ _ _ _ _)
   | (with_reducible exact LeO.refl _)
   | (with_reducible exact LeO.none _)
   | (with_reducible refine LeO.ite ?_ ?_)
   | (with_reducible refine LeO.bind ?_ (fun _ => ?_))
   | exact ih0 _ _ _ _
   | exact head_Parse.mono _ _
   | exact head_Write.mono _ _ _ _ _ _
   | exact tollgatelaw09_live.mono _
   | exact tollgateref09_Same.mono _ _ _ _ _ _ _ _ _ _ _
   | exact LeO.none _
   | refine LeO.ite ?_ ?_
   | refine LeO.bind ?_ (fun _ => ?_)
set_option maxHeartbeats 8000000 in
set_option maxRecDepth 100000 in
theorem tollgatelaw09_HeadCuts.calls (k : Nat) (a0_0 : ByteArray) (a0_1 : ByteArray) (a0_2 : ByteArray) (a0_3 : ByteArray) (A0_4 : Option Addr) (c0_4 : Nat) (l0_4 : List (S38)) (a1 : Int) (r : Bool) (hr_ : r = true) (w : World) (hml : ML w) (hr0_4 : Kd.C k38 w A0_4 l0_4.length l0_4) (hc0_4 : l0_4.length ≤ c0_4) (h : tollgatelaw09_HeadCuts.f k a0_0 a0_1 a0_2 a0_3 l0_4 a1 = some r) :
  Calls Tryd.prog 9 #[.agg #[.string a0_0, .string a0_1, .string a0_2, .string a0_3, .slice A0_4 l0_4.length c0_4], .int .i64 a1] w fun e w' => e = .returned (.bool r) ∧ Below w.heap.size w w' := by
 have HML := Aside0.mk hml
 clear hml
 have HRT := Aside0.mk hr_
 clear hr_
 have hu25 := Tryd.underlying25
 have HR0_4 := Aside0.mk hr0_4
 have HC0_4 := Aside0.mk hc0_4
 clear hr0_4 hc0_4
 have HB := Aside0.mk (Below.refl w.heap.size w)
 have H : ((head_Write.f k a0_0 a0_1 a0_2 a0_3 l0_4).bind fun bt493 => (if bt493.2 = 0 then (tollgatelaw09_HeadCuts.j0 k a1 bt493.1 bt493.2 ((bt493.1.length : Int) == 0)) else (tollgatelaw09_HeadCuts.j0 k a1 bt493.1 bt493.2 true))) = some r := h
 clear h
 replace H := Option.bind_eq_some_iff.mp H
 obtain ⟨⟨t493, t496⟩, A30, H⟩ := H
 replace H : (if t496 = 0 then (tollgatelaw09_HeadCuts.j0 k a1 t493 t496 ((t493.length : Int) == 0)) else (tollgatelaw09_HeadCuts.j0 k a1 t493 t496 true)) = some r := H
 have A3 := Aside0.mk A30
 clear A30
 have HC4 := Aside0.mk H
 clear H
 go_enter Tryd.func9, Tryd.ntmps9
 go_upto_region 2 with (first | ((with_reducible refine gate_dst (N := 2) rfl ?_); (try (refine gate_guard (by rfl) ?_; dsimp only)); refine box_event ?hg (N := 2) ?hd (cs := #[.string a0_0, .string a0_1, .string a0_2, .string a0_3, .slice A0_4 l0_4.length c0_4]) (t := 25) ?hr ?_; (case hd => rfl); (case hg => rfl); (case hr => first | (go_simp; done) | (go_simp; rfl)); intro gb492 hg w5 hbox hb; have n0_ := Aside0.mk (below_step (by repeat (first | (with_reducible first | exact HB.out | apply below_alloc | apply pw_below_drewN | apply below_drew1) | exact HB.out)) hb); have n1_ := Aside0.mk (hbox); have n2_ := Aside0.mk ((by rw [hg]; exact (below_size (by repeat (first | (with_reducible first | exact HB.out | apply below_alloc | apply pw_below_drewN | apply below_drew1) | exact HB.out))) : w.heap.size ≤ gb492)); have n3_ := Aside0.mk ((by rw [hg]; exact (below_size (by repeat (first | (with_reducible first | exact HB.out | apply below_alloc | apply pw_below_drewN | apply below_drew1) | exact HB.out))) : w.heap.size ≤ gb492)); clear HB; have HB := n0_; have BK492 := n1_; have GW492 := n2_; have GE492 := n3_; clear n0_ n1_ n2_ n3_; clear hb hbox hg; have hcz6_0 : w5.cell? ⟨gb492, 0, none⟩ = some (.string a0_0) := (blk_cell BK492.out 0).trans rfl; have hcz6_1 : w5.cell? ⟨gb492, 1, none⟩ = some (.string a0_1) := (blk_cell BK492.out 1).trans rfl; have hcz6_2 : w5.cell? ⟨gb492, 2, none⟩ = some (.string a0_2) := (blk_cell BK492.out 2).trans rfl; have hcz6_3 : w5.cell? ⟨gb492, 3, none⟩ = some (.string a0_3) := (blk_cell BK492.out 3).trans rfl; have hcz6_4 : w5.cell? ⟨gb492, 4, none⟩ = some (.slice A0_4 l0_4.length c0_4) := (blk_cell BK492.out 4).trans rfl; have hfz6_0 := blk_frozen BK492.out 0; have hfz6_1 := blk_frozen BK492.out 1; have hfz6_2 := blk_frozen BK492.out 2; have hfz6_3 := blk_frozen BK492.out 3; have hfz6_4 := blk_frozen BK492.out 4) | ((with_reducible refine gate_callee (f := 21) rfl ?_); refine goesL_ (some 12) rfl rfl Tryd.func21 (by kernel_rfl) rfl #[.agg #[.string a0_0, .string a0_1, .string a0_2, .string a0_3, .slice A0_4 l0_4.length c0_4]] rfl (by (try simp only [List.map_toArray, List.map_cons, List.map_nil]); first | done | rfl | (simp only [List.length_drop, List.length_take]; rfl)) ?_; (with_reducible refine (head_Write.calls k a0_0 a0_1 a0_2 a0_3 _ _ l0_4 t493 t496 _ ?side1 ?side2 ?side3 A3.out).mono ?_); (case side1 => exact ML.keep HML.out (by repeat (first | (with_reducible first | exact HB.out | apply below_alloc | apply pw_below_drewN | apply below_drew1 | refine below_set ?_ GE492.out) | exact HB.out))); (case side2 => repeat (first | exact (Kd.C_below HR0_4.out HB.out) | (with_reducible refine Kd.C_alloc ?_ _) | (with_reducible refine Kd.C_drewN ?_ _) | (with_reducible refine Kd.C_drew ?_))); (case side3 => exact HC0_4.out); rintro e w7 ⟨v494, rfl, ho0, hb⟩; refine ⟨_, rfl, ?_⟩; have n0_ := Aside0.mk (Kd.V_lower (Kd.V_mono (ok' := fun k_ => k_ ≠ gb492) ho0 (fun k_ hk_ => (Kd.freshB (g := gb492) (o := .cells #[.string a0_0, .string a0_1, .string a0_2, .string a0_3, .slice A0_4 l0_4.length c0_4] 25 (0, 0)) (by (with_reducible repeat (first | refine blk_drewN ?_ _ | refine blk_drew ?_ | refine blk_alloc ?_ _)); exact BK492.out) k_ hk_))) (below_size (by repeat (first | (with_reducible first | exact HB.out | apply below_alloc | apply pw_below_drewN | apply below_drew1 | refine below_set ?_ GE492.out) | exact HB.out)))); have n1_ := Aside0.mk (blk_below (g := gb492) (o := .cells #[.string a0_0, .string a0_1, .string a0_2, .string a0_3, .slice A0_4 l0_4.length c0_4] 25 (0, 0)) (by (with_reducible repeat (first | refine blk_drewN ?_ _ | refine blk_drew ?_ | refine blk_alloc ?_ _)); exact BK492.out) hb); have n2_ := Aside0.mk (below_step (by repeat (first | (with_reducible first | exact HB.out | apply below_alloc | apply pw_below_drewN | apply below_drew1 | refine below_set ?_ GE492.out) | exact HB.out)) hb); clear BK492; clear HB; have HO495 := n0_; have BK492 := n1_; have HB := n2_; clear n0_ n1_ n2_; (try clear hb); (try clear hb2); (try clear hk); (try clear hi); (try clear ho0)))
 (try simp only [Act.put, List.setIfInBounds_toArray, List.set_cons_zero, List.set_cons_succ])
 go_cut [21] (fun v21 wc => ∃ (kq : Nat) (x21_3 : Bool), v21 = .bool x21_3 ∧ Aside0 (tollgatelaw09_HeadCuts.j0 kq a1 t493 t496 x21_3 = some r) ∧ Aside0 (kq ≤ k) ∧ Aside0 (Kd.V (Kd.int .u8) 5 wc w.heap.size (fun k_ => k_ ≠ gb492) v494 t493) ∧ Aside0 (wc.heap[gb492]? = some (.cells #[.string a0_0, .string a0_1, .string a0_2, .string a0_3, (.slice A0_4 l0_4.length c0_4)] 25 (0, 0))) ∧ Aside0 (Below w.heap.size w wc))
 case first =>
  have H := HC4.out
  clear HC4
  by_cases c8 : t496 = 0
  ·rw [if_pos c8] at H
   have c8b0 : (t496 == 0) = true := beq_iff_eq.mpr c8
   have c8b1 : (t496 != 0) = false := bne_eq_false_iff_eq.mpr c8
   clear c8
   (first | rw [c8b0] | (simp only [i64_w, i32_w]; rw [c8b0]) | skip)
   have H' := Aside0.mk H
   clear H
   obtain ⟨Ao9, co9, eo9⟩ := Kd.V_slice HO495.out
   subst eo9
   go_wp2
   go_meet
   case rel => exact ⟨_, (((t493.length : Int) == 0)), (by first | rfl | (simp; done) | (simp [*]; done)), H', ⟨by first | omega | exact Nat.le_refl _⟩, ⟨by (with_reducible repeat (first | apply Kd.V_alloc | apply Kd.V_drewN | apply Kd.V_drew)); exact HO495.out⟩, ⟨by (with_reducible repeat (first | refine blk_drewN ?_ _ | refine blk_drew ?_ | refine blk_alloc ?_ _)); exact BK492.out⟩, ⟨by repeat (first | (with_reducible first | exact HB.out | apply below_alloc | apply pw_below_drewN | apply below_drew1 | refine below_set ?_ GE492.out) | exact HB.out)⟩⟩
  ·rw [if_neg c8] at H
   have c8b0 : (t496 == 0) = false := beq_eq_false_iff_ne.mpr c8
   have c8b1 : (t496 != 0) = true := bne_iff_ne.mpr c8
   (first | rw [c8b0] | (simp only [i64_w, i32_w]; rw [c8b0]) | skip)
   have H' := Aside0.mk H
   clear H
   go_wp2
   go_meet
   case rel => exact ⟨_, (true), (by first | rfl | (simp; done) | (simp [*]; done)), H', ⟨by first | omega | exact Nat.le_refl _⟩, ⟨by (with_reducible repeat (first | apply Kd.V_alloc | apply Kd.V_drewN | apply Kd.V_drew)); exact HO495.out⟩, ⟨by (with_reducible repeat (first | refine blk_drewN ?_ _ | refine blk_drew ?_ | refine blk_alloc ?_ _)); exact BK492.out⟩, ⟨by repeat (first | (with_reducible first | exact HB.out | apply below_alloc | apply pw_below_drewN | apply below_drew1 | refine below_set ?_ GE492.out) | exact HB.out)⟩⟩
 case rest =>
  clear HC4
  try clear hcz6_0
  try clear hcz6_1
  try clear hcz6_2
  try clear hcz6_3
  try clear hcz6_4
  try clear hfz6_0
  try clear hfz6_1
  try clear hfz6_2
  try clear hfz6_3
  try clear hfz6_4
  obtain ⟨kq, x21_3, rfl, HA, HJ3, HO_5, BK492, HB⟩ := hcut
  cases kq with
  | zero => exact absurd HA.out (by simp [tollgatelaw09_HeadCuts.j0])
  | succ kj3 =>
   have H := HA.out
   clear HA
   simp only [tollgatelaw09_HeadCuts.j0] at H
   by_cases c10 : x21_3 = true
   ·subst c10
    have H1 : ((tollgatelaw09_live.f kj3).bind fun t497 => (if t497 = true then (some (t496 != 0)) else (some false))) = some r := by rw [if_pos rfl] at H; exact H
    clear H
    have H := H1
    clear H1
    replace H := Option.bind_eq_some_iff.mp H
    obtain ⟨t497, A110, H⟩ := H
    replace H : (if t497 = true then (some (t496 != 0)) else (some false)) = some r := H
    have A11 := Aside0.mk A110
    clear A110
    by_cases c12 : t497 = true
    ·subst c12
     have H1 : (some (t496 != 0)) = some r := by rw [if_pos rfl] at H; exact H
     clear H
     have H := H1
     clear H1
     obtain rfl := Option.some.inj H
     go_wp2_with (first | ((with_reducible refine gate_callee (f := 16) rfl ?_); refine goesL_ (some 22) rfl rfl Tryd.func16 (by kernel_rfl) rfl #[] rfl (by (try simp only [List.map_toArray, List.map_cons, List.map_nil]); first | done | rfl | (simp only [List.length_drop, List.length_take]; rfl)) ?_; (with_reducible refine (tollgatelaw09_live.calls kj3  true _ ?side1 A11.out).mono ?_); (case side1 => exact ML.keep HML.out (by repeat (first | (with_reducible first | exact HB.out | apply below_alloc | apply pw_below_drewN | apply below_drew1 | refine below_set ?_ GE492.out) | exact HB.out))); rintro e w13 ⟨rfl, hb⟩; refine ⟨_, rfl, ?_⟩; have n0_ := Aside0.mk (Kd.V_below (by (with_reducible repeat (first | apply Kd.V_alloc | apply Kd.V_drewN | apply Kd.V_drew)); exact HO_5.out) hb); have n1_ := Aside0.mk (blk_below (g := gb492) (o := .cells #[.string a0_0, .string a0_1, .string a0_2, .string a0_3, .slice A0_4 l0_4.length c0_4] 25 (0, 0)) (by (with_reducible repeat (first | refine blk_drewN ?_ _ | refine blk_drew ?_ | refine blk_alloc ?_ _)); exact BK492.out) hb); have n2_ := Aside0.mk (below_step (by repeat (first | (with_reducible first | exact HB.out | apply below_alloc | apply pw_below_drewN | apply below_drew1 | refine below_set ?_ GE492.out) | exact HB.out)) hb); clear HO_5; clear BK492; clear HB; have HO_5 := n0_; have BK492 := n1_; have HB := n2_; clear n0_ n1_ n2_; (try clear hb); (try clear hb2); (try clear hk); (try clear hi)))
     go_ret
     exact ⟨by first | rfl | (simp [errW_none, errW_some] <;> rfl) | (simp [*, errW_none, errW_some] <;> rfl), by repeat (first | (with_reducible first | exact HB.out | apply below_alloc | apply pw_below_drewN | apply below_drew1 | refine below_set ?_ GE492.out) | exact HB.out)⟩
    ·replace c12 := Bool.eq_false_iff.mpr c12
     subst c12
     have H1 : (some false) = some r := by rw [if_neg (show ¬ (false = true) by decide)] at H; exact H
     clear H
     have H := H1
     clear H1
     exact absurd ((Option.some.inj H).trans HRT.out) (by decide)
   ·replace c10 := Bool.eq_false_iff.mpr c10
    subst c10
    have H1 : (if (IntKind.u64.wrap ((t493.length : Int))) = 0 then (none) else (if 0 ≤ (wrap64 (Int.tmod (IntKind.u64.wrap (a1)) (IntKind.u64.wrap ((t493.length : Int))))) then (if (wrap64 (Int.tmod (IntKind.u64.wrap (a1)) (IntKind.u64.wrap ((t493.length : Int))))) ≤ (t493.length : Int) then ((head_Parse.f kj3 (t493.take ((wrap64 (Int.tmod (IntKind.u64.wrap (a1)) (IntKind.u64.wrap ((t493.length : Int))))) : Int).toNat)).bind fun bt503 => ((tollgatelaw09_live.f kj3).bind fun t513 => (if t513 = true then (if bt503.2.2.2.2.2.2 = 3 then (if bt503.2.2.2.2.2.1 = 0 then ((tollgateref09_Same.f kj3 bt503.1 bt503.2.1 bt503.2.2.1 bt503.2.2.2.1 bt503.2.2.2.2.1 (⟨#[]⟩ : ByteArray) (⟨#[]⟩ : ByteArray) (⟨#[]⟩ : ByteArray) (⟨#[]⟩ : ByteArray) ([] : List (S38))).bind fun t514 => (some t514)) else (some false)) else (some false)) else (some false)))) else (none)) else (none))) = some r := by rw [if_neg (show ¬ (false = true) by decide)] at H; exact H
    clear H
    have H := H1
    clear H1
    by_cases c14 : (IntKind.u64.wrap ((t493.length : Int))) = 0
    ·rw [if_pos c14] at H
     exact absurd H (by simp)
    ·rw [if_neg c14] at H
     have c14b0 : ((IntKind.u64.wrap ((t493.length : Int))) == 0) = false := beq_eq_false_iff_ne.mpr c14
     have c14b1 : ((IntKind.u64.wrap ((t493.length : Int))) != 0) = true := bne_iff_ne.mpr c14
     obtain ⟨ji15, hji15⟩ : ∃ j_ : Int, (wrap64 (Int.tmod (IntKind.u64.wrap (a1)) (IntKind.u64.wrap ((t493.length : Int))))) = j_ := ⟨_, rfl⟩
     replace H : (if 0 ≤ (ji15) then (if (ji15) ≤ (t493.length : Int) then ((head_Parse.f kj3 (t493.take ((ji15) : Int).toNat)).bind fun bt503 => ((tollgatelaw09_live.f kj3).bind fun t513 => (if t513 = true then (if bt503.2.2.2.2.2.2 = 3 then (if bt503.2.2.2.2.2.1 = 0 then ((tollgateref09_Same.f kj3 bt503.1 bt503.2.1 bt503.2.2.1 bt503.2.2.2.1 bt503.2.2.2.2.1 (⟨#[]⟩ : ByteArray) (⟨#[]⟩ : ByteArray) (⟨#[]⟩ : ByteArray) (⟨#[]⟩ : ByteArray) ([] : List (S38))).bind fun t514 => (some t514)) else (some false)) else (some false)) else (some false)))) else (none)) else (none)) = some r := by first | (rw [hji15] at H; exact H) | (simp only [hji15] at H ⊢; exact H)
     have hji15w : (IntKind.i64.wrap (Int.tmod (IntKind.u64.wrap (a1)) (IntKind.u64.wrap ((t493.length : Int))))) = ji15 := (i64_w _).trans hji15
     by_cases c16 : 0 ≤ (ji15)
     ·rw [if_pos c16] at H
      have c16b0 := eq_true c16
      have c16b1 : decide (0 ≤ (ji15)) = true := decide_eq_true c16
      clear c16
      by_cases c17 : (ji15) ≤ (t493.length : Int)
      ·rw [if_pos c17] at H
       have c17b0 := eq_true c17
       have c17b1 : decide ((ji15) ≤ (t493.length : Int)) = true := decide_eq_true c17
       clear c17
       obtain ⟨y498, hy498⟩ : ∃ y_ : List Int, y_ = (t493.take ((ji15) : Int).toNat) := ⟨_, rfl⟩
       replace H : ((head_Parse.f kj3 y498).bind fun bt503 => ((tollgatelaw09_live.f kj3).bind fun t513 => (if t513 = true then (if bt503.2.2.2.2.2.2 = 3 then (if bt503.2.2.2.2.2.1 = 0 then ((tollgateref09_Same.f kj3 bt503.1 bt503.2.1 bt503.2.2.1 bt503.2.2.2.1 bt503.2.2.2.2.1 (⟨#[]⟩ : ByteArray) (⟨#[]⟩ : ByteArray) (⟨#[]⟩ : ByteArray) (⟨#[]⟩ : ByteArray) ([] : List (S38))).bind fun t514 => (some t514)) else (some false)) else (some false)) else (some false)))) = some r := by first | (rw [hy498]; with_reducible exact H) | (have H2_ := (Option.bind_some _ _).symm.trans H; rw [hy498]; with_reducible exact H2_) | (have H2_ := (Option.bind_some _ _).symm.trans H; with_reducible exact H2_) | with_reducible exact H | (rw [hy498]; exact H) | exact H
       have Ny498 := Aside0.mk hy498
       clear hy498
       replace H := Option.bind_eq_some_iff.mp H
       obtain ⟨⟨t503, t504, t505, t506, t507, t510, t511⟩, A180, H⟩ := H
       replace H : ((tollgatelaw09_live.f kj3).bind fun t513 => (if t513 = true then (if t511 = 3 then (if t510 = 0 then ((tollgateref09_Same.f kj3 t503 t504 t505 t506 t507 (⟨#[]⟩ : ByteArray) (⟨#[]⟩ : ByteArray) (⟨#[]⟩ : ByteArray) (⟨#[]⟩ : ByteArray) ([] : List (S38))).bind fun t514 => (some t514)) else (some false)) else (some false)) else (some false))) = some r := H
       have A18 := Aside0.mk A180
       clear A180
       replace H := Option.bind_eq_some_iff.mp H
       obtain ⟨t513, A190, H⟩ := H
       replace H : (if t513 = true then (if t511 = 3 then (if t510 = 0 then ((tollgateref09_Same.f kj3 t503 t504 t505 t506 t507 (⟨#[]⟩ : ByteArray) (⟨#[]⟩ : ByteArray) (⟨#[]⟩ : ByteArray) (⟨#[]⟩ : ByteArray) ([] : List (S38))).bind fun t514 => (some t514)) else (some false)) else (some false)) else (some false)) = some r := H
       have A19 := Aside0.mk A190
       clear A190
       by_cases c20 : t513 = true
       ·subst c20
        have H1 : (if t511 = 3 then (if t510 = 0 then ((tollgateref09_Same.f kj3 t503 t504 t505 t506 t507 (⟨#[]⟩ : ByteArray) (⟨#[]⟩ : ByteArray) (⟨#[]⟩ : ByteArray) (⟨#[]⟩ : ByteArray) ([] : List (S38))).bind fun t514 => (some t514)) else (some false)) else (some false)) = some r := by rw [if_pos rfl] at H; exact H
        clear H
        have H := H1
        clear H1
        by_cases c21 : t511 = 3
        ·rw [if_pos c21] at H
         have c21b0 : (t511 == 3) = true := beq_iff_eq.mpr c21
         have c21b1 : (t511 != 3) = false := bne_eq_false_iff_eq.mpr c21
         clear c21
         by_cases c22 : t510 = 0
         ·rw [if_pos c22] at H
          have c22b0 : (t510 == 0) = true := beq_iff_eq.mpr c22
          have c22b1 : (t510 != 0) = false := bne_eq_false_iff_eq.mpr c22
          clear c22
          replace H := Option.bind_eq_some_iff.mp H
          obtain ⟨t514, A230, H⟩ := H
          replace H : (some t514) = some r := H
          have A23 := Aside0.mk A230
          clear A230
          obtain rfl := Option.some.inj H
          obtain ⟨Ao24, co24, eo24⟩ := Kd.V_slice HO_5.out
          subst eo24
          have q25 : ((ji15) : Int) ≤ ((t493.length : Int) : Int) := of_decide_eq_true (by first | (with_reducible assumption) | assumption)
          obtain ⟨i025, hi025, _, hsz25, _⟩ := info_parts info5
          have hroom25 : t493.length ≤ co24 := (Kd.V_reads' HO_5.out).2.1
          have hC25 : Kd.F (Kd.int .u8) _ _ Ao24 t493.length t493 := (Kd.V_at (base := w.heap.size) HO_5.out).2.2
          have hcut25 := cut_to (P := Tryd.prog) 22 5 .i64 Tryd.underlying22 hi025 Ao24 t493.length co24 (ji15) (of_decide_eq_true (by first | (with_reducible assumption) | assumption)) q25 hroom25
          have hr25 := Kd.F_take (m := ((ji15) : Int).toNat) hC25 (by omega)
          have hy25 : y498.length = ((ji15) : Int).toNat := (by rw [Ny498.out, List.length_take]; omega)
          rw [← Ny498.out] at hr25
          rw [← hy25] at hcut25
          have HO502 := Aside0.mk (show Kd.V (Kd.int .u8) 5 _ w.heap.size _ (.slice Ao24 y498.length co24) y498 from Kd.V_mk (by omega) hr25)
          have HC502 := Aside0.mk (show y498.length ≤ co24 from by omega)
          clear hr25 hC25 hroom25 hi025 hsz25
          have KY25 := Aside0.mk hy25
          clear hy25
          replace q25 := eq_true q25
          go_wp2_with (first | ((with_reducible refine gate_callee (f := 14) rfl ?_); refine goesL_ (some 37) rfl rfl Tryd.func14 (by kernel_rfl) rfl #[.slice Ao24 y498.length co24] rfl (by (try simp only [List.map_toArray, List.map_cons, List.map_nil]); first | done | rfl | (simp only [List.length_drop, List.length_take]; rfl)) ?_; (with_reducible refine (head_Parse.calls kj3 _ _ y498 t503 t504 t505 t506 t507 t510 t511 _ ?side1 ?side2 ?side3 A18.out).mono ?_); (case side1 => exact ML.keep HML.out (by repeat (first | (with_reducible first | exact HB.out | apply below_alloc | apply pw_below_drewN | apply below_drew1 | refine below_set ?_ GE492.out) | exact HB.out))); (case side2 => repeat (first | exact (Kd.V_reads' HO502.out).2.2 | (with_reducible refine Kd.C_alloc ?_ _) | (with_reducible refine Kd.C_drewN ?_ _) | (with_reducible refine Kd.C_drew ?_))); (case side3 => exact (Kd.V_reads' HO502.out).2.1); rintro e w26 ⟨v508, rfl, ho0, hb⟩; refine ⟨_, rfl, ?_⟩; have n0_ := Aside0.mk (Kd.V_elder' (by (with_reducible repeat (first | apply Kd.V_alloc | apply Kd.V_drewN | apply Kd.V_drew)); exact HO_5.out) (Kd.R_base ho0) hb); have n1_ := Aside0.mk (Kd.V_elder' (by (with_reducible repeat (first | apply Kd.V_alloc | apply Kd.V_drewN | apply Kd.V_drew)); exact HO502.out) (Kd.R_base ho0) hb); have n2_ := Aside0.mk (Kd.R_lower ho0 (below_size (by repeat (first | (with_reducible first | exact HB.out | apply below_alloc | apply pw_below_drewN | apply below_drew1 | refine below_set ?_ GE492.out) | exact HB.out)))); have n3_ := Aside0.mk (blk_below (g := gb492) (o := .cells #[.string a0_0, .string a0_1, .string a0_2, .string a0_3, .slice A0_4 l0_4.length c0_4] 25 (0, 0)) (by (with_reducible repeat (first | refine blk_drewN ?_ _ | refine blk_drew ?_ | refine blk_alloc ?_ _)); exact BK492.out) hb); have n4_ := Aside0.mk (below_step (by repeat (first | (with_reducible first | exact HB.out | apply below_alloc | apply pw_below_drewN | apply below_drew1 | refine below_set ?_ GE492.out) | exact HB.out)) hb); clear HO_5; clear HO502; clear BK492; clear HB; have HO_5 := n0_; have HO502 := n1_; have HO509 := n2_; have BK492 := n3_; have HB := n4_; clear n0_ n1_ n2_ n3_ n4_; (try clear hb); (try clear hb2); (try clear hk); (try clear hi); (try clear ho0)) | ((with_reducible refine gate_dst (N := 7) rfl ?_); (try (refine gate_guard (by rfl) ?_; dsimp only)); refine box_event ?hg (N := 7) ?hd (cs := #[.string (⟨#[]⟩ : ByteArray), .string (⟨#[]⟩ : ByteArray), .string (⟨#[]⟩ : ByteArray), .string (⟨#[]⟩ : ByteArray), .slice none 0 0]) (t := 25) ?hr ?_; (case hd => rfl); (case hg => rfl); (case hr => first | (go_simp; done) | (go_simp; rfl)); intro gb512 hg w27 hbox hb; have n0_ := Aside0.mk (Kd.V_below (Kd.V_elderB (by (with_reducible repeat (first | apply Kd.V_alloc | apply Kd.V_drewN | apply Kd.V_drew)); exact HO_5.out) gb512 (Nat.le_of_eq hg.symm)) hb); have n1_ := Aside0.mk (Kd.V_below (Kd.V_elderB (by (with_reducible repeat (first | apply Kd.V_alloc | apply Kd.V_drewN | apply Kd.V_drew)); exact HO502.out) gb512 (Nat.le_of_eq hg.symm)) hb); have n2_ := Aside0.mk (Kd.R_below (by (with_reducible repeat (first | apply Kd.R_alloc | apply Kd.R_drewN | apply Kd.R_drew)); exact HO509.out) hb); have n3_ := Aside0.mk (blk_below (g := gb492) (o := .cells #[.string a0_0, .string a0_1, .string a0_2, .string a0_3, .slice A0_4 l0_4.length c0_4] 25 (0, 0)) (by (with_reducible repeat (first | refine blk_drewN ?_ _ | refine blk_drew ?_ | refine blk_alloc ?_ _)); exact BK492.out) hb); have n4_ := Aside0.mk (below_step (by repeat (first | (with_reducible first | exact HB.out | apply below_alloc | apply pw_below_drewN | apply below_drew1 | refine below_set ?_ GE492.out) | exact HB.out)) hb); have n5_ := Aside0.mk (hbox); have n6_ := Aside0.mk ((by rw [hg]; exact (below_size (by repeat (first | (with_reducible first | exact HB.out | apply below_alloc | apply pw_below_drewN | apply below_drew1 | refine below_set ?_ GE492.out) | exact HB.out))) : w.heap.size ≤ gb512)); have n7_ := Aside0.mk ((by rw [hg]; exact (below_size (by repeat (first | (with_reducible first | exact HB.out | apply below_alloc | apply pw_below_drewN | apply below_drew1 | refine below_set ?_ GE492.out) | exact HB.out))) : w.heap.size ≤ gb512)); have n8_ := Aside0.mk ((by rw [hg]; exact Nat.ne_of_lt (blk_lt (g := gb492) (o := .cells #[.string a0_0, .string a0_1, .string a0_2, .string a0_3, .slice A0_4 l0_4.length c0_4] 25 (0, 0)) (by (with_reducible repeat (first | refine blk_drewN ?_ _ | refine blk_drew ?_ | refine blk_alloc ?_ _)); exact BK492.out)) : gb492 ≠ gb512)); have n9_ := Aside0.mk ((by rw [hg]; exact Nat.ne_of_gt (blk_lt (g := gb492) (o := .cells #[.string a0_0, .string a0_1, .string a0_2, .string a0_3, .slice A0_4 l0_4.length c0_4] 25 (0, 0)) (by (with_reducible repeat (first | refine blk_drewN ?_ _ | refine blk_drew ?_ | refine blk_alloc ?_ _)); exact BK492.out)) : gb512 ≠ gb492)); clear HO_5; clear HO502; clear HO509; clear BK492; clear HB; have HO_5 := n0_; have HO502 := n1_; have HO509 := n2_; have BK492 := n3_; have HB := n4_; have BK512 := n5_; have GW512 := n6_; have GE512 := n7_; have NB492_512 := n8_; have NB512_492 := n9_; clear n0_ n1_ n2_ n3_ n4_ n5_ n6_ n7_ n8_ n9_; clear hb hbox hg; have hnb28 := NB512_492.out; have hnc28 := NB492_512.out; have hcz29_0 : w27.cell? ⟨gb512, 0, none⟩ = some (.string (⟨#[]⟩ : ByteArray)) := (blk_cell BK512.out 0).trans rfl; have hcz29_1 : w27.cell? ⟨gb512, 1, none⟩ = some (.string (⟨#[]⟩ : ByteArray)) := (blk_cell BK512.out 1).trans rfl; have hcz29_2 : w27.cell? ⟨gb512, 2, none⟩ = some (.string (⟨#[]⟩ : ByteArray)) := (blk_cell BK512.out 2).trans rfl; have hcz29_3 : w27.cell? ⟨gb512, 3, none⟩ = some (.string (⟨#[]⟩ : ByteArray)) := (blk_cell BK512.out 3).trans rfl; have hcz29_4 : w27.cell? ⟨gb512, 4, none⟩ = some (.slice none 0 0) := (blk_cell BK512.out 4).trans rfl; have hfz29_0 := blk_frozen BK512.out 0; have hfz29_1 := blk_frozen BK512.out 1; have hfz29_2 := blk_frozen BK512.out 2; have hfz29_3 := blk_frozen BK512.out 3; have hfz29_4 := blk_frozen BK512.out 4; obtain ⟨Ao30, co30, eo30⟩ := Kd.R_slice HO509.out; subst eo30) | ((with_reducible refine gate_callee (f := 16) rfl ?_); refine goesL_ (some 41) rfl rfl Tryd.func16 (by kernel_rfl) rfl #[] rfl (by (try simp only [List.map_toArray, List.map_cons, List.map_nil]); first | done | rfl | (simp only [List.length_drop, List.length_take]; rfl)) ?_; (with_reducible refine (tollgatelaw09_live.calls kj3  true _ ?side1 A19.out).mono ?_); (case side1 => exact ML.keep HML.out (by repeat (first | (with_reducible first | exact HB.out | apply below_alloc | apply pw_below_drewN | apply below_drew1 | refine below_set ?_ GE492.out | refine below_set ?_ GE512.out) | exact HB.out))); rintro e w31 ⟨rfl, hb⟩; refine ⟨_, rfl, ?_⟩; have n0_ := Aside0.mk (Kd.V_below (by (with_reducible repeat (first | apply Kd.V_alloc | apply Kd.V_drewN | apply Kd.V_drew)); exact (Kd.V_mono (Kd.V_far (p := ⟨gb512, 4, none⟩) (Kd.V_far (p := ⟨gb512, 3, none⟩) (Kd.V_far (p := ⟨gb512, 2, none⟩) (Kd.V_far (p := ⟨gb512, 1, none⟩) (Kd.V_far (p := ⟨gb512, 0, none⟩) (Kd.V_mono HO_5.out (fun k_ hk => (⟨hk, hk.2⟩ : _ ∧ k_ ≠ gb512))) (fun _ hk => hk.2) (.string t503)) (fun _ hk => hk.2) (.string t504)) (fun _ hk => hk.2) (.string t505)) (fun _ hk => hk.2) (.string t506)) (fun _ hk => hk.2) (.slice Ao30 t507.length co30)) (fun _ h_ => h_.1))) hb); have n1_ := Aside0.mk (Kd.V_below (by (with_reducible repeat (first | apply Kd.V_alloc | apply Kd.V_drewN | apply Kd.V_drew)); exact (Kd.V_mono (Kd.V_far (p := ⟨gb512, 4, none⟩) (Kd.V_far (p := ⟨gb512, 3, none⟩) (Kd.V_far (p := ⟨gb512, 2, none⟩) (Kd.V_far (p := ⟨gb512, 1, none⟩) (Kd.V_far (p := ⟨gb512, 0, none⟩) (Kd.V_mono HO502.out (fun k_ hk => (⟨hk, hk.2⟩ : _ ∧ k_ ≠ gb512))) (fun _ hk => hk.2) (.string t503)) (fun _ hk => hk.2) (.string t504)) (fun _ hk => hk.2) (.string t505)) (fun _ hk => hk.2) (.string t506)) (fun _ hk => hk.2) (.slice Ao30 t507.length co30)) (fun _ h_ => h_.1))) hb); have n2_ := Aside0.mk (Kd.R_below (by (with_reducible repeat (first | apply Kd.R_alloc | apply Kd.R_drewN | apply Kd.R_drew)); exact (Kd.R_mono (Kd.R_far (p := ⟨gb512, 4, none⟩) (Kd.R_far (p := ⟨gb512, 3, none⟩) (Kd.R_far (p := ⟨gb512, 2, none⟩) (Kd.R_far (p := ⟨gb512, 1, none⟩) (Kd.R_far (p := ⟨gb512, 0, none⟩) (Kd.R_types HO509.out BK512.out (by decide)) (fun _ hk => hk.2) (.string t503)) (fun _ hk => hk.2) (.string t504)) (fun _ hk => hk.2) (.string t505)) (fun _ hk => hk.2) (.string t506)) (fun _ hk => hk.2) (.slice Ao30 t507.length co30)) (fun _ h_ => h_.1))) hb); have n3_ := Aside0.mk (blk_below (g := gb492) (o := .cells #[.string a0_0, .string a0_1, .string a0_2, .string a0_3, .slice A0_4 l0_4.length c0_4] 25 (0, 0)) (by (with_reducible repeat (first | refine blk_drewN ?_ _ | refine blk_drew ?_ | refine blk_alloc ?_ _)); refine blk_far ?_ NB492_512.out _; (with_reducible repeat (first | refine blk_drewN ?_ _ | refine blk_drew ?_ | refine blk_alloc ?_ _)); refine blk_far ?_ NB492_512.out _; (with_reducible repeat (first | refine blk_drewN ?_ _ | refine blk_drew ?_ | refine blk_alloc ?_ _)); refine blk_far ?_ NB492_512.out _; (with_reducible repeat (first | refine blk_drewN ?_ _ | refine blk_drew ?_ | refine blk_alloc ?_ _)); refine blk_far ?_ NB492_512.out _; (with_reducible repeat (first | refine blk_drewN ?_ _ | refine blk_drew ?_ | refine blk_alloc ?_ _)); refine blk_far ?_ NB492_512.out _; (with_reducible repeat (first | refine blk_drewN ?_ _ | refine blk_drew ?_ | refine blk_alloc ?_ _)); exact BK492.out) hb); have n4_ := Aside0.mk (blk_below (g := gb512) (o := .cells #[.string t503, .string t504, .string t505, .string t506, .slice Ao30 t507.length co30] 25 (0, 0)) (by (with_reducible repeat (first | refine blk_drewN ?_ _ | refine blk_drew ?_ | refine blk_alloc ?_ _)); refine blk_put (cs := #[.string t503, .string t504, .string t505, .string t506, .slice none 0 0]) ?_ 4 _ rfl; (with_reducible repeat (first | refine blk_drewN ?_ _ | refine blk_drew ?_ | refine blk_alloc ?_ _)); refine blk_put (cs := #[.string t503, .string t504, .string t505, .string (⟨#[]⟩ : ByteArray), .slice none 0 0]) ?_ 3 _ rfl; (with_reducible repeat (first | refine blk_drewN ?_ _ | refine blk_drew ?_ | refine blk_alloc ?_ _)); refine blk_put (cs := #[.string t503, .string t504, .string (⟨#[]⟩ : ByteArray), .string (⟨#[]⟩ : ByteArray), .slice none 0 0]) ?_ 2 _ rfl; (with_reducible repeat (first | refine blk_drewN ?_ _ | refine blk_drew ?_ | refine blk_alloc ?_ _)); refine blk_put (cs := #[.string t503, .string (⟨#[]⟩ : ByteArray), .string (⟨#[]⟩ : ByteArray), .string (⟨#[]⟩ : ByteArray), .slice none 0 0]) ?_ 1 _ rfl; (with_reducible repeat (first | refine blk_drewN ?_ _ | refine blk_drew ?_ | refine blk_alloc ?_ _)); refine blk_put (cs := #[.string (⟨#[]⟩ : ByteArray), .string (⟨#[]⟩ : ByteArray), .string (⟨#[]⟩ : ByteArray), .string (⟨#[]⟩ : ByteArray), .slice none 0 0]) ?_ 0 _ rfl; (with_reducible repeat (first | refine blk_drewN ?_ _ | refine blk_drew ?_ | refine blk_alloc ?_ _)); exact BK512.out) hb); have n5_ := Aside0.mk (below_step (by repeat (first | (with_reducible first | exact HB.out | apply below_alloc | apply pw_below_drewN | apply below_drew1 | refine below_set ?_ GE492.out | refine below_set ?_ GE512.out) | exact HB.out)) hb); clear HO_5; clear HO502; clear HO509; clear BK492; clear BK512; clear HB; have HO_5 := n0_; have HO502 := n1_; have HO509 := n2_; have BK492 := n3_; have BK512 := n4_; have HB := n5_; clear n0_ n1_ n2_ n3_ n4_ n5_; (try clear hb); (try clear hb2); (try clear hk); (try clear hi); have hcz32_0 : w31.cell? ⟨gb512, 0, none⟩ = some (.string t503) := (blk_cell BK512.out 0).trans rfl; have hcz32_1 : w31.cell? ⟨gb512, 1, none⟩ = some (.string t504) := (blk_cell BK512.out 1).trans rfl; have hcz32_2 : w31.cell? ⟨gb512, 2, none⟩ = some (.string t505) := (blk_cell BK512.out 2).trans rfl; have hcz32_3 : w31.cell? ⟨gb512, 3, none⟩ = some (.string t506) := (blk_cell BK512.out 3).trans rfl; have hcz32_4 : w31.cell? ⟨gb512, 4, none⟩ = some (.slice Ao30 t507.length co30) := (blk_cell BK512.out 4).trans rfl; have hfz32_0 := blk_frozen BK512.out 0; have hfz32_1 := blk_frozen BK512.out 1; have hfz32_2 := blk_frozen BK512.out 2; have hfz32_3 := blk_frozen BK512.out 3; have hfz32_4 := blk_frozen BK512.out 4) | (go_at_call 17; (refine (tollgateref09_Same.calls kj3 t503 t504 t505 t506 _ _ t507 (⟨#[]⟩ : ByteArray) (⟨#[]⟩ : ByteArray) (⟨#[]⟩ : ByteArray) (⟨#[]⟩ : ByteArray) _ _ ([] : List (S38)) t514 _ ?side1 ?side2 ?side3 ?side4 A23.out).mono ?_); (case side1 => repeat (first | exact (Kd.R_reads' HO509.out).2.2 | (with_reducible refine Kd.C_alloc ?_ _) | (with_reducible refine Kd.C_drewN ?_ _) | (with_reducible refine Kd.C_drew ?_))); (case side2 => exact (Kd.R_reads' HO509.out).2.1); (case side3 => exact Kd.C_nil _ _); (case side4 => exact Nat.le_refl _); rintro e w33 ⟨rfl, hb⟩; have n0_ := Aside0.mk (Kd.V_below (by (with_reducible repeat (first | apply Kd.V_alloc | apply Kd.V_drewN | apply Kd.V_drew)); exact HO_5.out) hb); have n1_ := Aside0.mk (Kd.V_below (by (with_reducible repeat (first | apply Kd.V_alloc | apply Kd.V_drewN | apply Kd.V_drew)); exact HO502.out) hb); have n2_ := Aside0.mk (Kd.R_below (by (with_reducible repeat (first | apply Kd.R_alloc | apply Kd.R_drewN | apply Kd.R_drew)); exact HO509.out) hb); have n3_ := Aside0.mk (blk_below (g := gb492) (o := .cells #[.string a0_0, .string a0_1, .string a0_2, .string a0_3, .slice A0_4 l0_4.length c0_4] 25 (0, 0)) (by (with_reducible repeat (first | refine blk_drewN ?_ _ | refine blk_drew ?_ | refine blk_alloc ?_ _)); exact BK492.out) hb); have n4_ := Aside0.mk (blk_below (g := gb512) (o := .cells #[.string t503, .string t504, .string t505, .string t506, .slice Ao30 t507.length co30] 25 (0, 0)) (by (with_reducible repeat (first | refine blk_drewN ?_ _ | refine blk_drew ?_ | refine blk_alloc ?_ _)); exact BK512.out) hb); have n5_ := Aside0.mk (below_step (by repeat (first | (with_reducible first | exact HB.out | apply below_alloc | apply pw_below_drewN | apply below_drew1 | refine below_set ?_ GE492.out | refine below_set ?_ GE512.out) | exact HB.out)) hb); clear HO_5; clear HO502; clear HO509; clear BK492; clear BK512; clear HB; have HO_5 := n0_; have HO502 := n1_; have HO509 := n2_; have BK492 := n3_; have BK512 := n4_; have HB := n5_; clear n0_ n1_ n2_ n3_ n4_ n5_; (try clear hb); (try clear hb2); (try clear hk); (try clear hi)))
          go_ret
          exact ⟨by first | rfl | (simp [errW_none, errW_some] <;> rfl) | (simp only [← hji15]; first | rfl | (simp [errW_none, errW_some] <;> rfl)) | (simp [*, errW_none, errW_some] <;> rfl), by repeat (first | (with_reducible first | exact HB.out | apply below_alloc | apply pw_below_drewN | apply below_drew1 | refine below_set ?_ GE492.out | refine below_set ?_ GE512.out) | exact HB.out)⟩
         ·rw [if_neg c22] at H
          have c22b0 : (t510 == 0) = false := beq_eq_false_iff_ne.mpr c22
          have c22b1 : (t510 != 0) = true := bne_iff_ne.mpr c22
          exact absurd ((Option.some.inj H).trans HRT.out) (by decide)
        ·rw [if_neg c21] at H
         have c21b0 : (t511 == 3) = false := beq_eq_false_iff_ne.mpr c21
         have c21b1 : (t511 != 3) = true := bne_iff_ne.mpr c21
         exact absurd ((Option.some.inj H).trans HRT.out) (by decide)
       ·replace c20 := Bool.eq_false_iff.mpr c20
        subst c20
        have H1 : (some false) = some r := by rw [if_neg (show ¬ (false = true) by decide)] at H; exact H
        clear H
        have H := H1
        clear H1
        exact absurd ((Option.some.inj H).trans HRT.out) (by decide)
      ·rw [if_neg c17] at H
       exact absurd H (by simp)
     ·rw [if_neg c16] at H
      exact absurd H (by simp)

end Go.Proofs.YtabkdmfnafeaeaaDoor.Q
