-- Laid by lay.py, a program of this session's, out of the translation (the kit's printer with additions of ours). Lean checks it.
import Derived.Test.YtabkdmfnafeaeaaDoorQx0
import Derived.Test.YtabkdmfnafeaeaaDoorQx8
namespace Go.Proofs.YtabkdmfnafeaeaaDoor.Q
open Go.RowKit Go.Proofs.YtabkdmfnafeaeaaDoorW.PrintWords Go.Proofs.YtabkdmfnafeaeaaDoorW.PrintLast Go.Proofs.YtabkdmfnafeaeaaDoorW.PrintMore
attribute [local go_sem] max2_int min2_int max_two min_two max_three min_three max_four min_four   -- for this text's walks alone
attribute [local go_sem] fbin_eql fbin_neq fbin_lss fbin_leq fbin_gtr fbin_geq frun_add frun_sub frun_mul frun_quo frun_store fun_neg fcv_int fcv_same fb92 fb116
set_option linter.unusedVariables false
set_option linter.unusedSimpArgs false

/-! ### tollgatelaw09_other: function 24 -/
def tollgatelaw09_other.l0 : Nat → Int → ByteArray → ByteArray → ByteArray → ByteArray → List (S38) → Option (Bool)
 | 0, _, _, _, _, _, _ => none
 | k + 1, x3, x458000, x458001, x458002, x458003, x458004 => if x3 < (x458004.length : Int) then (if 0 ≤ x3 then (if ((rd_T38 x458004 x3).f0).toList = ([104, 111, 115, 116] : List UInt8) then ((head_Host.f k ((rd_T38 x458004 x3).f1)).bind fun bt460 => (if bt460.2 = true then (some (bt460.1.toList != x458003.toList)) else (some false))) else (tollgatelaw09_other.l0 k (wrap64 (x3 + 1)) x458000 x458001 x458002 x458003 x458004)) else (none)) else (some false)
def tollgatelaw09_other.f (k : Nat) (a0_0 : ByteArray) (a0_1 : ByteArray) (a0_2 : ByteArray) (a0_3 : ByteArray) (l0_4 : List (S38)) : Option (Bool) := tollgatelaw09_other.l0 k 0 a0_0 a0_1 a0_2 a0_3 l0_4
theorem tollgatelaw09_other.mono_l : ∀ k, (∀ y0 y1 y2 y3 y4 y5, LeO (tollgatelaw09_other.l0 k y0 y1 y2 y3 y4 y5) (tollgatelaw09_other.l0 (k + 1) y0 y1 y2 y3 y4 y5))
 | 0 => fun _ _ _ _ _ _ r h => by simp [tollgatelaw09_other.l0] at h
 | k + 1 => by
  have ih0 := tollgatelaw09_other.mono_l k
  ·intro y0 y1 y2 y3 y4 y5
   unfold tollgatelaw09_other.l0
   repeat' first
   | (with_reducible exact ih0 _ _ _ _ _ _)
   | (with_reducible exact head_Host.mono _ _)
   | (with_reducible exact LeO.refl _)
   | (with_reducible exact LeO.none _)
   | (with_reducible refine LeO.ite ?_ ?_)
   | (with_reducible refine LeO.bind ?_ (fun _ => ?_))
   | exact ih0 _ _ _ _ _ _
   | exact head_Host.mono _ _
   | exact LeO.none _
   | refine LeO.ite ?_ ?_
   | refine LeO.bind ?_ (fun _ => ?_)
theorem tollgatelaw09_other.mono : ∀ a0 a1 a2 a3 a4 k, LeO (tollgatelaw09_other.f k a0 a1 a2 a3 a4) (tollgatelaw09_other.f (k + 1) a0 a1 a2 a3 a4) := by
 intro a0 a1 a2 a3 a4 k
 have ih0 := tollgatelaw09_other.mono_l k
 unfold tollgatelaw09_other.f
 repeat' first
   | (with_reducible exact ih0 _ _ _ _ _ _)
   | (with_reducible exact head_Host.mono _ _)
   | (with_reducible exact LeO.refl _)
   | (with_reducible exact LeO.none _)
   | (with_reducible refine LeO.ite ?_ ?_)
   | (with_reducible refine LeO.bind ?_ (fun _ => ?_))
   | exact ih0 _ _ _ _ _ _
   | exact head_Host.mono _ _
   | exact LeO.none _
   | refine LeO.ite ?_ ?_
   | refine LeO.bind ?_ (fun _ => ?_)
set_option maxHeartbeats 8000000 in
set_option maxRecDepth 100000 in
theorem tollgatelaw09_other.calls (k : Nat) (a0_0 : ByteArray) (a0_1 : ByteArray) (a0_2 : ByteArray) (a0_3 : ByteArray) (A0_4 : Option Addr) (c0_4 : Nat) (l0_4 : List (S38)) (r : Bool) (w : World) (hml : ML w) (hr0_4 : Kd.C k38 w A0_4 l0_4.length l0_4) (hc0_4 : l0_4.length ≤ c0_4) (h : tollgatelaw09_other.f k a0_0 a0_1 a0_2 a0_3 l0_4 = some r) :
  Calls Tryd.prog 24 #[.agg #[.string a0_0, .string a0_1, .string a0_2, .string a0_3, .slice A0_4 l0_4.length c0_4]] w fun e w' => e = .returned (.bool r) ∧ Below w.heap.size w w' := by
 have HML := Aside0.mk hml
 clear hml
 have hu25 := Tryd.underlying25
 have HR0_4 := Aside0.mk hr0_4
 have HC0_4 := Aside0.mk hc0_4
 clear hr0_4 hc0_4
 have HB := Aside0.mk (Below.refl w.heap.size w)
 have H : (tollgatelaw09_other.l0 k 0 a0_0 a0_1 a0_2 a0_3 l0_4) = some r := h
 clear h
 have H' := Aside0.mk H
 clear H
 go_enter Tryd.func24, Tryd.ntmps24
 go_wp2_with (first | ((with_reducible refine gate_dst (N := 1) rfl ?_); refine box_event ?hg (N := 1) ?hd (cs := #[.string a0_0, .string a0_1, .string a0_2, .string a0_3, .slice A0_4 l0_4.length c0_4]) (t := 25) ?hr ?_; (case hd => rfl); (case hg => rfl); (case hr => first | (go_simp; done) | (go_simp; rfl)); intro gb457 hg w2 hbox hb; have n0_ := Aside0.mk (below_step (by repeat (first | (with_reducible first | exact HB.out | apply below_alloc | apply pw_below_drewN | apply below_drew1) | exact HB.out)) hb); have n1_ := Aside0.mk (hbox); have n2_ := Aside0.mk ((by rw [hg]; exact (below_size (by repeat (first | (with_reducible first | exact HB.out | apply below_alloc | apply pw_below_drewN | apply below_drew1) | exact HB.out))) : w.heap.size ≤ gb457)); have n3_ := Aside0.mk ((by rw [hg]; exact (below_size (by repeat (first | (with_reducible first | exact HB.out | apply below_alloc | apply pw_below_drewN | apply below_drew1) | exact HB.out))) : w.heap.size ≤ gb457)); clear HB; have HB := n0_; have BK457 := n1_; have GW457 := n2_; have GE457 := n3_; clear n0_ n1_ n2_ n3_; clear hb hbox hg))
 go_loopg [3] k (fun kq v3 w' => ∃ (x3_1 : Int), v3 = .int .i64 x3_1 ∧ Aside0 (tollgatelaw09_other.l0 kq x3_1 a0_0 a0_1 a0_2 a0_3 l0_4 = some r) ∧ Aside0 (kq ≤ k) ∧ Aside0 (w'.heap[gb457]? = some (.cells #[.string a0_0, .string a0_1, .string a0_2, .string a0_3, (.slice A0_4 l0_4.length c0_4)] 25 (0, 0))) ∧ Aside0 (Below w.heap.size w w'))
 case atStart => exact ⟨(0), (by first | rfl | (simp; done) | (simp [*]; done)), H', ⟨Nat.le_refl _⟩, ⟨by (with_reducible repeat (first | refine blk_drewN ?_ _ | refine blk_drew ?_ | refine blk_alloc ?_ _)); exact BK457.out⟩, ⟨by repeat (first | (with_reducible first | exact HB.out | apply below_alloc | apply pw_below_drewN | apply below_drew1 | refine below_set ?_ GE457.out) | exact HB.out)⟩⟩
 case round =>
  clear H'
  obtain ⟨x3_1, rfl, HA, HK1, BK457, HB⟩ := hrel
  cases gk with
  | zero => exact absurd HA.out (by simp [tollgatelaw09_other.l0])
  | succ k1 =>
   have H := HA.out
   clear HA
   simp only [tollgatelaw09_other.l0] at H
   by_cases c3 : x3_1 < (l0_4.length : Int)
   ·rw [if_pos c3] at H
    have c3b0 : decide (x3_1 < (l0_4.length : Int)) = true := decide_eq_true c3
    clear c3
    by_cases c4 : 0 ≤ x3_1
    ·rw [if_pos c4] at H
     have c4b0 : decide (0 ≤ x3_1) = true := decide_eq_true c4
     clear c4
     by_cases c5 : ((rd_T38 l0_4 x3_1).f0).toList = ([104, 111, 115, 116] : List UInt8)
     ·rw [if_pos c5] at H
      have c5b0 : (((rd_T38 l0_4 x3_1).f0).toList == ([104, 111, 115, 116] : List UInt8)) = true := beq_iff_eq.mpr c5
      have c5b1 : (((rd_T38 l0_4 x3_1).f0).toList != ([104, 111, 115, 116] : List UInt8)) = false := bne_eq_false_iff_eq.mpr c5
      clear c5
      replace H := Option.bind_eq_some_iff.mp H
      obtain ⟨⟨t460, t461⟩, A60, H⟩ := H
      replace H : (if t461 = true then (some (t460.toList != a0_3.toList)) else (some false)) = some r := H
      have A6 := Aside0.mk A60
      clear A60
      by_cases c7 : t461 = true
      ·subst c7
       have H1 : (some (t460.toList != a0_3.toList)) = some r := by rw [if_pos rfl] at H; exact H
       clear H
       have H := H1
       clear H1
       obtain rfl := Option.some.inj H
       have hcz8_0 : wr.cell? ⟨gb457, 0, none⟩ = some (.string a0_0) := (blk_cell BK457.out 0).trans rfl
       have hcz8_1 : wr.cell? ⟨gb457, 1, none⟩ = some (.string a0_1) := (blk_cell BK457.out 1).trans rfl
       have hcz8_2 : wr.cell? ⟨gb457, 2, none⟩ = some (.string a0_2) := (blk_cell BK457.out 2).trans rfl
       have hcz8_3 : wr.cell? ⟨gb457, 3, none⟩ = some (.string a0_3) := (blk_cell BK457.out 3).trans rfl
       have hcz8_4 : wr.cell? ⟨gb457, 4, none⟩ = some (.slice A0_4 l0_4.length c0_4) := (blk_cell BK457.out 4).trans rfl
       have hfz8_0 := blk_frozen BK457.out 0
       have hfz8_1 := blk_frozen BK457.out 1
       have hfz8_2 := blk_frozen BK457.out 2
       have hfz8_3 := blk_frozen BK457.out 3
       have hfz8_4 := blk_frozen BK457.out 4
       have p458 : 0 ≤ (x3_1 : Int) := of_decide_eq_true (by first | (with_reducible assumption) | assumption)
       have q458 : x3_1 < (l0_4.length : Int) := of_decide_eq_true (by first | (with_reducible assumption) | assumption)
       obtain ⟨ad458, e458, hx458_0, hx458_1⟩ := at_T38 HR0_4.out x3_1 p458 q458
       cases e458
       replace hx458_0 := (HB.out.cell (World.block_lt_of_cell? w _ hx458_0)).trans hx458_0
       replace hx458_1 := (HB.out.cell (World.block_lt_of_cell? w _ hx458_1)).trans hx458_1
       replace p458 := eq_true p458
       replace q458 := eq_true q458
       have p459 : 0 ≤ (x3_1 : Int) := of_decide_eq_true (by first | (with_reducible assumption) | assumption)
       have q459 : x3_1 < (l0_4.length : Int) := of_decide_eq_true (by first | (with_reducible assumption) | assumption)
       obtain ⟨ad459, e459, hx459_0, hx459_1⟩ := at_T38 HR0_4.out x3_1 p459 q459
       obtain rfl : ad458 = ad459 := (by injection e459)
       replace hx459_0 := (HB.out.cell (World.block_lt_of_cell? w _ hx459_0)).trans hx459_0
       replace hx459_1 := (HB.out.cell (World.block_lt_of_cell? w _ hx459_1)).trans hx459_1
       replace p459 := eq_true p459
       replace q459 := eq_true q459
       go_wp2_with (first | ((with_reducible refine gate_callee (f := 18) rfl ?_); refine goesL_ (some 27) rfl rfl Tryd.func18 (by kernel_rfl) rfl #[.string ((rd_T38 l0_4 x3_1).f1)] rfl (by (try simp only [List.map_toArray, List.map_cons, List.map_nil]); first | done | rfl | (simp only [List.length_drop, List.length_take]; rfl)) ?_; (with_reducible refine (head_Host.calls k1 ((rd_T38 l0_4 x3_1).f1) t460 true _ ?side1 A6.out).mono ?_); (case side1 => exact ML.keep HML.out (by repeat (first | (with_reducible first | exact HB.out | apply below_alloc | apply pw_below_drewN | apply below_drew1 | refine below_set ?_ GE457.out) | exact HB.out))); rintro e w9 ⟨rfl, hb⟩; refine ⟨_, rfl, ?_⟩; have n0_ := Aside0.mk (blk_below (g := gb457) (o := .cells #[.string a0_0, .string a0_1, .string a0_2, .string a0_3, .slice (some ad458) l0_4.length c0_4] 25 (0, 0)) (by (with_reducible repeat (first | refine blk_drewN ?_ _ | refine blk_drew ?_ | refine blk_alloc ?_ _)); exact BK457.out) hb); have n1_ := Aside0.mk (below_step (by repeat (first | (with_reducible first | exact HB.out | apply below_alloc | apply pw_below_drewN | apply below_drew1 | refine below_set ?_ GE457.out) | exact HB.out)) hb); clear BK457; clear HB; have BK457 := n0_; have HB := n1_; clear n0_ n1_; (try clear hb); (try clear hb2); (try clear hk); (try clear hi); have hcz10_0 : w9.cell? ⟨gb457, 0, none⟩ = some (.string a0_0) := (blk_cell BK457.out 0).trans rfl; have hcz10_1 : w9.cell? ⟨gb457, 1, none⟩ = some (.string a0_1) := (blk_cell BK457.out 1).trans rfl; have hcz10_2 : w9.cell? ⟨gb457, 2, none⟩ = some (.string a0_2) := (blk_cell BK457.out 2).trans rfl; have hcz10_3 : w9.cell? ⟨gb457, 3, none⟩ = some (.string a0_3) := (blk_cell BK457.out 3).trans rfl; have hcz10_4 : w9.cell? ⟨gb457, 4, none⟩ = some (.slice (some ad458) l0_4.length c0_4) := (blk_cell BK457.out 4).trans rfl; have hfz10_0 := blk_frozen BK457.out 0; have hfz10_1 := blk_frozen BK457.out 1; have hfz10_2 := blk_frozen BK457.out 2; have hfz10_3 := blk_frozen BK457.out 3; have hfz10_4 := blk_frozen BK457.out 4))
       go_ret
       exact ⟨by first | rfl | (simp [errW_none, errW_some] <;> rfl) | (simp [*, errW_none, errW_some] <;> rfl), by repeat (first | (with_reducible first | exact HB.out | apply below_alloc | apply pw_below_drewN | apply below_drew1 | refine below_set ?_ GE457.out) | exact HB.out)⟩
      ·replace c7 := Bool.eq_false_iff.mpr c7
       subst c7
       have H1 : (some false) = some r := by rw [if_neg (show ¬ (false = true) by decide)] at H; exact H
       clear H
       have H := H1
       clear H1
       obtain rfl := Option.some.inj H
       have hcz11_0 : wr.cell? ⟨gb457, 0, none⟩ = some (.string a0_0) := (blk_cell BK457.out 0).trans rfl
       have hcz11_1 : wr.cell? ⟨gb457, 1, none⟩ = some (.string a0_1) := (blk_cell BK457.out 1).trans rfl
       have hcz11_2 : wr.cell? ⟨gb457, 2, none⟩ = some (.string a0_2) := (blk_cell BK457.out 2).trans rfl
       have hcz11_3 : wr.cell? ⟨gb457, 3, none⟩ = some (.string a0_3) := (blk_cell BK457.out 3).trans rfl
       have hcz11_4 : wr.cell? ⟨gb457, 4, none⟩ = some (.slice A0_4 l0_4.length c0_4) := (blk_cell BK457.out 4).trans rfl
       have hfz11_0 := blk_frozen BK457.out 0
       have hfz11_1 := blk_frozen BK457.out 1
       have hfz11_2 := blk_frozen BK457.out 2
       have hfz11_3 := blk_frozen BK457.out 3
       have hfz11_4 := blk_frozen BK457.out 4
       have p458 : 0 ≤ (x3_1 : Int) := of_decide_eq_true (by first | (with_reducible assumption) | assumption)
       have q458 : x3_1 < (l0_4.length : Int) := of_decide_eq_true (by first | (with_reducible assumption) | assumption)
       obtain ⟨ad458, e458, hx458_0, hx458_1⟩ := at_T38 HR0_4.out x3_1 p458 q458
       cases e458
       replace hx458_0 := (HB.out.cell (World.block_lt_of_cell? w _ hx458_0)).trans hx458_0
       replace hx458_1 := (HB.out.cell (World.block_lt_of_cell? w _ hx458_1)).trans hx458_1
       replace p458 := eq_true p458
       replace q458 := eq_true q458
       have p459 : 0 ≤ (x3_1 : Int) := of_decide_eq_true (by first | (with_reducible assumption) | assumption)
       have q459 : x3_1 < (l0_4.length : Int) := of_decide_eq_true (by first | (with_reducible assumption) | assumption)
       obtain ⟨ad459, e459, hx459_0, hx459_1⟩ := at_T38 HR0_4.out x3_1 p459 q459
       obtain rfl : ad458 = ad459 := (by injection e459)
       replace hx459_0 := (HB.out.cell (World.block_lt_of_cell? w _ hx459_0)).trans hx459_0
       replace hx459_1 := (HB.out.cell (World.block_lt_of_cell? w _ hx459_1)).trans hx459_1
       replace p459 := eq_true p459
       replace q459 := eq_true q459
       go_wp2_with (first | ((with_reducible refine gate_callee (f := 18) rfl ?_); refine goesL_ (some 27) rfl rfl Tryd.func18 (by kernel_rfl) rfl #[.string ((rd_T38 l0_4 x3_1).f1)] rfl (by (try simp only [List.map_toArray, List.map_cons, List.map_nil]); first | done | rfl | (simp only [List.length_drop, List.length_take]; rfl)) ?_; (with_reducible refine (head_Host.calls k1 ((rd_T38 l0_4 x3_1).f1) t460 false _ ?side1 A6.out).mono ?_); (case side1 => exact ML.keep HML.out (by repeat (first | (with_reducible first | exact HB.out | apply below_alloc | apply pw_below_drewN | apply below_drew1 | refine below_set ?_ GE457.out) | exact HB.out))); rintro e w12 ⟨rfl, hb⟩; refine ⟨_, rfl, ?_⟩; have n0_ := Aside0.mk (blk_below (g := gb457) (o := .cells #[.string a0_0, .string a0_1, .string a0_2, .string a0_3, .slice (some ad458) l0_4.length c0_4] 25 (0, 0)) (by (with_reducible repeat (first | refine blk_drewN ?_ _ | refine blk_drew ?_ | refine blk_alloc ?_ _)); exact BK457.out) hb); have n1_ := Aside0.mk (below_step (by repeat (first | (with_reducible first | exact HB.out | apply below_alloc | apply pw_below_drewN | apply below_drew1 | refine below_set ?_ GE457.out) | exact HB.out)) hb); clear BK457; clear HB; have BK457 := n0_; have HB := n1_; clear n0_ n1_; (try clear hb); (try clear hb2); (try clear hk); (try clear hi)))
       go_ret
       exact ⟨by first | rfl | (simp [errW_none, errW_some] <;> rfl) | (simp [*, errW_none, errW_some] <;> rfl), by repeat (first | (with_reducible first | exact HB.out | apply below_alloc | apply pw_below_drewN | apply below_drew1 | refine below_set ?_ GE457.out) | exact HB.out)⟩
     ·rw [if_neg c5] at H
      have c5b0 : (((rd_T38 l0_4 x3_1).f0).toList == ([104, 111, 115, 116] : List UInt8)) = false := beq_eq_false_iff_ne.mpr c5
      have c5b1 : (((rd_T38 l0_4 x3_1).f0).toList != ([104, 111, 115, 116] : List UInt8)) = true := bne_iff_ne.mpr c5
      have H' := Aside0.mk H
      clear H
      have hcz13_0 : wr.cell? ⟨gb457, 0, none⟩ = some (.string a0_0) := (blk_cell BK457.out 0).trans rfl
      have hcz13_1 : wr.cell? ⟨gb457, 1, none⟩ = some (.string a0_1) := (blk_cell BK457.out 1).trans rfl
      have hcz13_2 : wr.cell? ⟨gb457, 2, none⟩ = some (.string a0_2) := (blk_cell BK457.out 2).trans rfl
      have hcz13_3 : wr.cell? ⟨gb457, 3, none⟩ = some (.string a0_3) := (blk_cell BK457.out 3).trans rfl
      have hcz13_4 : wr.cell? ⟨gb457, 4, none⟩ = some (.slice A0_4 l0_4.length c0_4) := (blk_cell BK457.out 4).trans rfl
      have hfz13_0 := blk_frozen BK457.out 0
      have hfz13_1 := blk_frozen BK457.out 1
      have hfz13_2 := blk_frozen BK457.out 2
      have hfz13_3 := blk_frozen BK457.out 3
      have hfz13_4 := blk_frozen BK457.out 4
      have p458 : 0 ≤ (x3_1 : Int) := of_decide_eq_true (by first | (with_reducible assumption) | assumption)
      have q458 : x3_1 < (l0_4.length : Int) := of_decide_eq_true (by first | (with_reducible assumption) | assumption)
      obtain ⟨ad458, e458, hx458_0, hx458_1⟩ := at_T38 HR0_4.out x3_1 p458 q458
      cases e458
      replace hx458_0 := (HB.out.cell (World.block_lt_of_cell? w _ hx458_0)).trans hx458_0
      replace hx458_1 := (HB.out.cell (World.block_lt_of_cell? w _ hx458_1)).trans hx458_1
      replace p458 := eq_true p458
      replace q458 := eq_true q458
      go_wp2
      go_roundg k1
      case measure => have := HK1.out; omega
      case rel => exact ⟨(wrap64 (x3_1 + 1)), (by first | rfl | (simp; done) | (simp [*]; done)), H', ⟨by have := HK1.out; omega⟩, ⟨by (with_reducible repeat (first | refine blk_drewN ?_ _ | refine blk_drew ?_ | refine blk_alloc ?_ _)); exact BK457.out⟩, ⟨by repeat (first | (with_reducible first | exact HB.out | apply below_alloc | apply pw_below_drewN | apply below_drew1 | refine below_set ?_ GE457.out) | exact HB.out)⟩⟩
    ·rw [if_neg c4] at H
     exact absurd H (by simp)
   ·rw [if_neg c3] at H
    have c3b0 : decide (x3_1 < (l0_4.length : Int)) = false := decide_eq_false c3
    clear c3
    obtain rfl := Option.some.inj H
    have hcz14_0 : wr.cell? ⟨gb457, 0, none⟩ = some (.string a0_0) := (blk_cell BK457.out 0).trans rfl
    have hcz14_1 : wr.cell? ⟨gb457, 1, none⟩ = some (.string a0_1) := (blk_cell BK457.out 1).trans rfl
    have hcz14_2 : wr.cell? ⟨gb457, 2, none⟩ = some (.string a0_2) := (blk_cell BK457.out 2).trans rfl
    have hcz14_3 : wr.cell? ⟨gb457, 3, none⟩ = some (.string a0_3) := (blk_cell BK457.out 3).trans rfl
    have hcz14_4 : wr.cell? ⟨gb457, 4, none⟩ = some (.slice A0_4 l0_4.length c0_4) := (blk_cell BK457.out 4).trans rfl
    have hfz14_0 := blk_frozen BK457.out 0
    have hfz14_1 := blk_frozen BK457.out 1
    have hfz14_2 := blk_frozen BK457.out 2
    have hfz14_3 := blk_frozen BK457.out 3
    have hfz14_4 := blk_frozen BK457.out 4
    go_wp2
    go_ret
    exact ⟨by first | rfl | (simp [errW_none, errW_some] <;> rfl) | (simp [*, errW_none, errW_some] <;> rfl), by repeat (first | (with_reducible first | exact HB.out | apply below_alloc | apply pw_below_drewN | apply below_drew1 | refine below_set ?_ GE457.out) | exact HB.out)⟩

end Go.Proofs.YtabkdmfnafeaeaaDoor.Q
